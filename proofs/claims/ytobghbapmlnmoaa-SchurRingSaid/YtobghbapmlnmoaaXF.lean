/- Schur: contracts of the sum of products. -/
import Derived.Test.YtobghbapmlnmoaaXE
import Derived.Test.YtobghbapmlnmoaaXI
import Derived.Test.YtobghbapmlnmoaaXJ
set_option linter.unusedVariables false
set_option linter.unusedSimpArgs false
namespace Go.Schur
open Go Go.Ab Go.Proofs
def minL : List Int → Int
  | []=>0
  | x :: l=>l.foldl imin x
def maxL : List Int → Int
  | []=>0
  | x :: l=>l.foldl imax x
noncomputable def con75 : Con:=mkC 75 [.d LI] [I64] (fun (l:List Int)=>[0 < l.length ∧ l.length ≤ 1000]) (fun (l:List Int)=>(minL l,()))
noncomputable def g75 (x0:List Int) : Option (Int × Unit):=bif ilt (↑(List.length x0):Int) (1:Int) then gd False (gd False (gd ((0:Int) ≤ (0:Int) ∧ (0:Int) < (↑(List.length x0):Int)) (whileO (fun (d1 : Int × Int × Unit)=>bif ilt d1.2.1 (↑(List.length x0):Int) then gd ((0:Int) ≤ d1.2.1 ∧ d1.2.1 < (↑(List.length x0):Int)) (some (Lp.go ((imin d1.1 (List.getD x0 (Int.toNat d1.2.1) (0:Int)),wr .i64 (d1.2.1 + (1:Int)),()) : Int × Int × Unit))) else some (Lp.out ((d1.1,()) : Int × Unit))) ((List.getD x0 (0:Nat) (0:Int),(1:Int),()) : Int × Int × Unit)))) else gd ((0:Int) ≤ (0:Int) ∧ (0:Int) < (↑(List.length x0):Int)) (whileO (fun (d1 : Int × Int × Unit)=>bif ilt d1.2.1 (↑(List.length x0):Int) then gd ((0:Int) ≤ d1.2.1 ∧ d1.2.1 < (↑(List.length x0):Int)) (some (Lp.go ((imin d1.1 (List.getD x0 (Int.toNat d1.2.1) (0:Int)),wr .i64 (d1.2.1 + (1:Int)),()) : Int × Int × Unit))) else some (Lp.out ((d1.1,()) : Int × Unit))) ((List.getD x0 (0:Nat) (0:Int),(1:Int),()) : Int × Int × Unit))
noncomputable def g75_sh : List LSh:=LSh.mk (((3,TV.v (Ty.int IntKind.i64)) : Nat × TV) :: ((4,TV.v (Ty.int IntKind.i64)) : Nat × TV) :: ([] : List (Nat × TV))) ([] : List TB) :: ([] : List LSh)
noncomputable def con76 : Con:=mkC 76 [.d LI] [I64] (fun (l:List Int)=>[0 < l.length ∧ l.length ≤ 1000]) (fun (l:List Int)=>(maxL l,()))
noncomputable def g76 (x0:List Int) : Option (Int × Unit):=bif ilt (↑(List.length x0):Int) (1:Int) then gd False (gd False (gd ((0:Int) ≤ (0:Int) ∧ (0:Int) < (↑(List.length x0):Int)) (whileO (fun (d1 : Int × Int × Unit)=>bif ilt d1.2.1 (↑(List.length x0):Int) then gd ((0:Int) ≤ d1.2.1 ∧ d1.2.1 < (↑(List.length x0):Int)) (some (Lp.go ((imax d1.1 (List.getD x0 (Int.toNat d1.2.1) (0:Int)),wr .i64 (d1.2.1 + (1:Int)),()) : Int × Int × Unit))) else some (Lp.out ((d1.1,()) : Int × Unit))) ((List.getD x0 (0:Nat) (0:Int),(1:Int),()) : Int × Int × Unit)))) else gd ((0:Int) ≤ (0:Int) ∧ (0:Int) < (↑(List.length x0):Int)) (whileO (fun (d1 : Int × Int × Unit)=>bif ilt d1.2.1 (↑(List.length x0):Int) then gd ((0:Int) ≤ d1.2.1 ∧ d1.2.1 < (↑(List.length x0):Int)) (some (Lp.go ((imax d1.1 (List.getD x0 (Int.toNat d1.2.1) (0:Int)),wr .i64 (d1.2.1 + (1:Int)),()) : Int × Int × Unit))) else some (Lp.out ((d1.1,()) : Int × Unit))) ((List.getD x0 (0:Nat) (0:Int),(1:Int),()) : Int × Int × Unit))
noncomputable def g76_sh : List LSh:=LSh.mk (((3,TV.v (Ty.int IntKind.i64)) : Nat × TV) :: ((4,TV.v (Ty.int IntKind.i64)) : Nat × TV) :: ([] : List (Nat × TV))) ([] : List TB) :: ([] : List LSh)
def rowW (x r:List Int) (p:Int) : Int:=r.foldl (fun p k=>wr .i64 (p * x.getD (k - 1).toNat 0)) p
def valW (x:List Int) (rows:List (List Int)) : Int:=rows.foldl (fun p r=>rowW x r p) 1
def inX (x:List Int) (rows:List (List Int)) : Prop:=x.length ≤ 1000 ∧ rows.length ≤ 1000 ∧ ∀ r ∈ rows,r.length ≤ 1000 ∧ ∀ k ∈ r,1 ≤ k ∧ k ≤ x.length
noncomputable def con78 : SCon:=mkS 78 [.slf 0 1,.ref 1 1 0 0,.ref 2 1 0 0] [.nest I64,.cells [.v LI],.cells [.v I64]] [.v .bool] [.nest I64,.cells [.v LI],.cells [.v I64]] (fun (rows:List (List Int)) (x:List Int) (s:Int)=>[inX x rows]) (fun (rows:List (List Int)) (x:List Int) (s:Int)=>(true,rows,x,wr .i64 (s + valW x rows),()))
noncomputable def g78_l0 (d3 : Int × Int × List (List Int) × List Int × Int × Unit) (d4 : Int × Int × Int × List (List Int) × List Int × Int × Int × Unit) : Option (Lp (Int × Int × Int × List (List Int) × List Int × Int × Int × Unit) (Lp (Int × Int × List (List Int) × List Int × Int × Unit) (Bool × List (List Int) × List Int × Int × Unit))):=bif ilt d4.2.2.1 (↑(List.length (List.getD d3.2.2.1 ((0:Nat) + Int.toNat d3.2.1) ([]:List Int))):Int) then gd ((0:Int) ≤ d4.2.2.1 ∧ d4.2.2.1 < (↑(Int.toNat d4.2.1):Int)) (gd ((0:Nat) + Int.toNat d4.2.2.1 < List.length (List.getD d4.2.2.2.1 (Int.toNat d4.2.2.2.2.2.2.1) ([]:List Int))) (gd ((0:Int) ≤ wr .i64 (List.getD (List.getD d4.2.2.2.1 (Int.toNat d4.2.2.2.2.2.2.1) ([]:List Int)) ((0:Nat) + Int.toNat d4.2.2.1) (0:Int) - (1:Int)) ∧ wr .i64 (List.getD (List.getD d4.2.2.2.1 (Int.toNat d4.2.2.2.2.2.2.1) ([]:List Int)) ((0:Nat) + Int.toNat d4.2.2.1) (0:Int) - (1:Int)) < (↑(List.length d4.2.2.2.2.1):Int)) (gd (List.length d4.2.2.2.1 = List.length d4.2.2.2.1) (gd (Int.toNat d4.2.2.2.2.2.2.1 < List.length d4.2.2.2.1) (some (Lp.go ((wr .i64 (d4.1 * List.getD d4.2.2.2.2.1 (Int.toNat (wr .i64 (List.getD (List.getD d4.2.2.2.1 (Int.toNat d4.2.2.2.2.2.2.1) ([]:List Int)) ((0:Nat) + Int.toNat d4.2.2.1) (0:Int) - (1:Int)))) (0:Int)),(↑(Int.toNat d4.2.1):Int),wr .i64 (d4.2.2.1 + (1:Int)),d4.2.2.2.1,d4.2.2.2.2.1,d4.2.2.2.2.2.1,(↑(Int.toNat d4.2.2.2.2.2.2.1):Int),()) : Int × Int × Int × List (List Int) × List Int × Int × Int × Unit))))))) else gd (List.length d4.2.2.2.1 = List.length d4.2.2.2.1) (some (Lp.out (Lp.go ((d4.1,wr .i64 (d3.2.1 + (1:Int)),d4.2.2.2.1,d4.2.2.2.2.1,d4.2.2.2.2.2.1,()) : Int × Int × List (List Int) × List Int × Int × Unit))))
noncomputable def g78 (x0:List (List Int)) (x1:List Int) (x2:Int) : Option (Bool × List (List Int) × List Int × Int × Unit):=gd (List.length x0 = List.length x0) (whileO (fun (d3 : Int × Int × List (List Int) × List Int × Int × Unit)=>bif ilt d3.2.1 (↑(List.length x0):Int) then gd ((0:Int) ≤ d3.2.1 ∧ d3.2.1 < (↑(List.length d3.2.2.1):Int)) (gd ((0:Nat) + Int.toNat d3.2.1 < List.length d3.2.2.1) (gd (List.length d3.2.2.1 = List.length d3.2.2.1) (gd ((0:Nat) + Int.toNat d3.2.1 < List.length d3.2.2.1) (whileO (g78_l0 d3) ((d3.1,(↑(List.length (List.getD d3.2.2.1 ((0:Nat) + Int.toNat d3.2.1) ([]:List Int))):Int),(0:Int),d3.2.2.1,d3.2.2.2.1,d3.2.2.2.2.1,(↑((0:Nat) + Int.toNat d3.2.1):Int),()) : Int × Int × Int × List (List Int) × List Int × Int × Int × Unit))))) else some (Lp.out ((true,d3.2.2.1,d3.2.2.2.1,wr .i64 (d3.2.2.2.2.1 + d3.1),()) : Bool × List (List Int) × List Int × Int × Unit))) (((1:Int),(0:Int),x0,x1,x2,()) : Int × Int × List (List Int) × List Int × Int × Unit))
noncomputable def g78_sh : List LSh:=LSh.mk3 (((1,TV.ref (1) (1:Nat) (0:Nat) (0:Nat)) : Nat × TV) :: ((2,TV.ref (2) (1:Nat) (0:Nat) (0:Nat)) : Nat × TV) :: ((5,TV.v (Ty.int IntKind.i64)) : Nat × TV) :: ((10,TV.slf (0) (1)) : Nat × TV) :: ((12,TV.v (Ty.int IntKind.i64)) : Nat × TV) :: ([] : List (Nat × TV))) (TB.nest (Ty.int IntKind.i64) :: TB.cells (TV.v (Ty.slice (Ty.int IntKind.i64)) :: ([] : List TV)) :: TB.cells (TV.v (Ty.int IntKind.i64) :: ([] : List TV)) :: ([] : List TB)) (3) :: LSh.mk3 (((1,TV.ref (1) (1:Nat) (0:Nat) (0:Nat)) : Nat × TV) :: ((2,TV.ref (2) (1:Nat) (0:Nat) (0:Nat)) : Nat × TV) :: ((5,TV.v (Ty.int IntKind.i64)) : Nat × TV) :: ((10,TV.slf (0) (1)) : Nat × TV) :: ((16,TV.sl (3) (1) (0)) : Nat × TV) :: ((18,TV.v (Ty.int IntKind.i64)) : Nat × TV) :: ([] : List (Nat × TV))) (TB.nest (Ty.int IntKind.i64) :: TB.cells (TV.v (Ty.slice (Ty.int IntKind.i64)) :: ([] : List TV)) :: TB.cells (TV.v (Ty.int IntKind.i64) :: ([] : List TV)) :: TB.view (0) :: ([] : List TB)) (3) :: ([] : List LSh)
abbrev F78 (j:Nat) : TV:=.fn 78 (.cons (.ref j 1 0 0) (.cons (.ref (j + 1) 1 0 0) .nil))
abbrev P77d : List TB:=[.cells [.v LI,.v LI,.opt (.v LI),.v I64,.slf 3 1],.cells [.v LI],.cells [.v I64],.nest I64]
abbrev Q77d : List TB:=[.cells [.v LI,.v LI,.opt (.v LI),.v I64,.slf 4 1],.cells [.v LI],.cells [.v I64],.dead,.nest I64]
def sumW (x:List Int) (s:Int) (L : List (List (List Int))) : Int:=L.foldl (fun s t=>wr .i64 (s + valW x t)) s
def filD (inner outer:List Int) (most:Int) (n:Nat) (left:List Int) (rows:List (List Int)) (x:List Int) (s:Int) : Int:=sumW x s (fil inner outer most true n left rows)
def preD (n:Nat) (inner outer:List Int) (b:Bool) (left:List Int) (most:Int) (x:List Int) (rows:List (List Int)) : Prop:=b = true ∧ preM n inner outer left most true rows ∧ most = x.length
noncomputable def con77d (n:Nat) : SCon:=mkS 77 [.ref 0 1 0 0,F78 1] P77d [.v .bool] Q77d (fun (inner outer:List Int) (b:Bool) (left:List Int) (most:Int) (x:List Int) (s:Int) (rows:List (List Int))=>[preD n inner outer b left most x rows]) (fun (inner outer:List Int) (b:Bool) (left:List Int) (most:Int) (x:List Int) (s:Int) (rows:List (List Int))=>(true,inner,outer,b,left,most,x,filD inner outer most n left rows x s,rows,()))
noncomputable def g77d_c0 (x0:List Int) (x7:List (List Int)) : Int:=wr .i64 (rowF x0 (wr .i64 ((↑(List.length x7):Int) - (1:Int))) + (↑(List.length (List.getD x7 ((0:Nat) + Int.toNat (wr .i64 ((↑(List.length x7):Int) - (1:Int)))) ([]:List Int))):Int))
noncomputable def g77d_c1 (x0 x1:List Int) (x7:List (List Int)) : Bool:=bif ilt (wr .i64 ((↑(List.length x7):Int) - (1:Int))) (0:Int) then true else ieq (g77d_c0 x0 x7) (rowF x1 (wr .i64 ((↑(List.length x7):Int) - (1:Int))))
noncomputable def g77d_c2 (x0:List Int) (x7:List (List Int)) : Int:=atF x0 (List.take (List.length x7) (List.drop (0:Nat) x7)) (wr .i64 (wr .i64 ((↑(List.length x7):Int) - (1:Int)) - (1:Int))) (g77d_c0 x0 x7)
noncomputable def g77d_c3 (x7:List (List Int)) : Bool:=ilt (0:Int) (↑(List.length (List.getD x7 ((0:Nat) + Int.toNat (wr .i64 ((↑(List.length x7):Int) - (1:Int)))) ([]:List Int))):Int)
noncomputable def g77d_c4 (x0:List Int) (x7:List (List Int)) : Int:=atF x0 (List.take (List.length x7) (List.drop (0:Nat) x7)) (wr .i64 ((↑(List.length x7):Int) - (1:Int))) (wr .i64 (g77d_c0 x0 x7 - (1:Int)))
noncomputable def g77d_c5 (x7:List (List Int)) (d9 : Int × List Int × List Int × Bool × List Int × Int × List Int × Int × List (List Int) × Unit) : Int:=(↑(List.length (List.getD (List.set d9.2.2.2.2.2.2.2.2.1 ((0:Nat) + Int.toNat (wr .i64 ((↑(List.length x7):Int) - (1:Int)))) (List.take (List.length (List.getD d9.2.2.2.2.2.2.2.2.1 ((0:Nat) + Int.toNat (wr .i64 ((↑(List.length x7):Int) - (1:Int)))) ([]:List Int))) (List.getD d9.2.2.2.2.2.2.2.2.1 ((0:Nat) + Int.toNat (wr .i64 ((↑(List.length x7):Int) - (1:Int)))) ([]:List Int)) ++ d9.1 :: ([]:List Int))) ((0:Nat) + Int.toNat (wr .i64 ((↑(List.length x7):Int) - (1:Int)))) ([]:List Int))):Int)
noncomputable def g77d_c6 (x7:List (List Int)) (d9 : Int × List Int × List Int × Bool × List Int × Int × List Int × Int × List (List Int) × Unit) : Int:=(↑(List.length (List.getD (List.set d9.2.2.2.2.2.2.2.2.1 ((0:Nat) + Int.toNat (wr .i64 ((↑(List.length x7):Int) - (1:Int)))) (List.take (List.length (List.getD d9.2.2.2.2.2.2.2.2.1 ((0:Nat) + Int.toNat (wr .i64 ((↑(List.length x7):Int) - (1:Int)))) ([]:List Int))) (List.getD d9.2.2.2.2.2.2.2.2.1 ((0:Nat) + Int.toNat (wr .i64 ((↑(List.length x7):Int) - (1:Int)))) ([]:List Int)) ++ d9.1 :: ([]:List Int))) ((0:Nat) + Int.toNat (wr .i64 ((↑(List.length x7):Int) - (1:Int)))) ([]:List Int))):Int)
noncomputable def g77d (n:Nat) (x0 x1:List Int) (x2:Bool) (x3:List Int) (x4:Int) (x5:List Int) (x6:Int) (x7:List (List Int)) : Option (Bool × List Int × List Int × Bool × List Int × Int × List Int × Int × List (List Int) × Unit):=gd ((!ilt (wr .i64 ((↑(List.length x7):Int) - (1:Int))) (0:Int)) = true → (!ilt (wr .i64 ((↑(List.length x7):Int) - (1:Int))) (0:Int)) = true) (gd ((!ilt (wr .i64 ((↑(List.length x7):Int) - (1:Int))) (0:Int)) = true → (!ilt (wr .i64 ((↑(List.length x7):Int) - (1:Int))) (0:Int)) = true) (gd ((!ilt (wr .i64 ((↑(List.length x7):Int) - (1:Int))) (0:Int)) = true → (!ilt (wr .i64 ((↑(List.length x7):Int) - (1:Int))) (0:Int)) = true) (gd ((!ilt (wr .i64 ((↑(List.length x7):Int) - (1:Int))) (0:Int)) = true → (!ilt (wr .i64 ((↑(List.length x7):Int) - (1:Int))) (0:Int)) = true ∧ (!ilt (wr .i64 ((↑(List.length x7):Int) - (1:Int))) (0:Int)) = true ∧ (0:Int) ≤ wr .i64 ((↑(List.length x7):Int) - (1:Int)) ∧ List.length x0 ≤ (1000:Nat)) (gd ((!ilt (wr .i64 ((↑(List.length x7):Int) - (1:Int))) (0:Int)) = true → (!ilt (wr .i64 ((↑(List.length x7):Int) - (1:Int))) (0:Int)) = true) (gd ((!ilt (wr .i64 ((↑(List.length x7):Int) - (1:Int))) (0:Int)) = true → (!ilt (wr .i64 ((↑(List.length x7):Int) - (1:Int))) (0:Int)) = true) (gd ((!ilt (wr .i64 ((↑(List.length x7):Int) - (1:Int))) (0:Int)) = true → (!ilt (wr .i64 ((↑(List.length x7):Int) - (1:Int))) (0:Int)) = true) (gd ((!ilt (wr .i64 ((↑(List.length x7):Int) - (1:Int))) (0:Int)) = true → (!ilt (wr .i64 ((↑(List.length x7):Int) - (1:Int))) (0:Int)) = true ∧ (!ilt (wr .i64 ((↑(List.length x7):Int) - (1:Int))) (0:Int)) = true ∧ (0:Int) ≤ wr .i64 ((↑(List.length x7):Int) - (1:Int)) ∧ wr .i64 ((↑(List.length x7):Int) - (1:Int)) < (↑(List.length x7):Int)) (gd ((!ilt (wr .i64 ((↑(List.length x7):Int) - (1:Int))) (0:Int)) = true → (!ilt (wr .i64 ((↑(List.length x7):Int) - (1:Int))) (0:Int)) = true ∧ (0:Nat) + Int.toNat (wr .i64 ((↑(List.length x7):Int) - (1:Int))) < List.length x7) (gd ((!ilt (wr .i64 ((↑(List.length x7):Int) - (1:Int))) (0:Int)) = true → (!ilt (wr .i64 ((↑(List.length x7):Int) - (1:Int))) (0:Int)) = true) (gd ((!ilt (wr .i64 ((↑(List.length x7):Int) - (1:Int))) (0:Int)) = true → (!ilt (wr .i64 ((↑(List.length x7):Int) - (1:Int))) (0:Int)) = true ∧ (!ilt (wr .i64 ((↑(List.length x7):Int) - (1:Int))) (0:Int)) = true) (gd ((!ilt (wr .i64 ((↑(List.length x7):Int) - (1:Int))) (0:Int)) = true → (!ilt (wr .i64 ((↑(List.length x7):Int) - (1:Int))) (0:Int)) = true) (gd ((!ilt (wr .i64 ((↑(List.length x7):Int) - (1:Int))) (0:Int)) = true → (!ilt (wr .i64 ((↑(List.length x7):Int) - (1:Int))) (0:Int)) = true) (gd ((!ilt (wr .i64 ((↑(List.length x7):Int) - (1:Int))) (0:Int)) = true → (!ilt (wr .i64 ((↑(List.length x7):Int) - (1:Int))) (0:Int)) = true) (gd ((!ilt (wr .i64 ((↑(List.length x7):Int) - (1:Int))) (0:Int)) = true → (!ilt (wr .i64 ((↑(List.length x7):Int) - (1:Int))) (0:Int)) = true ∧ (!ilt (wr .i64 ((↑(List.length x7):Int) - (1:Int))) (0:Int)) = true ∧ (0:Int) ≤ wr .i64 ((↑(List.length x7):Int) - (1:Int)) ∧ List.length x1 ≤ (1000:Nat)) (gd ((!ilt (wr .i64 ((↑(List.length x7):Int) - (1:Int))) (0:Int)) = true → (!ilt (wr .i64 ((↑(List.length x7):Int) - (1:Int))) (0:Int)) = true ∧ (!ilt (wr .i64 ((↑(List.length x7):Int) - (1:Int))) (0:Int)) = true) (gd (ilt (wr .i64 ((↑(List.length x7):Int) - (1:Int))) (0:Int) = false → (!ilt (wr .i64 ((↑(List.length x7):Int) - (1:Int))) (0:Int)) = true) (bif g77d_c1 x0 x1 x7 then bif ieq (wr .i64 (wr .i64 ((↑(List.length x7):Int) - (1:Int)) + (1:Int))) (↑(List.length x1):Int) then gd (List.length x7 = List.length x7) (gd (inX x5 x7) (gd (x2 = false → ∀ (x9 : Prop),List.Mem x9 ([] : List Prop) → x9) (gd (List.length x7 = List.length x7) (some ((true,x0,x1,x2,x3,x4,x5,wr .i64 (x6 + valW x5 x7),x7,()) : Bool × List Int × List Int × Bool × List Int × Int × List Int × Int × List (List Int) × Unit))))) else gd ((0:Nat) = (0:Nat)) (gd (List.length x7 ≤ List.length x7) (gd ((List.length x7 + (1:Nat)) * (24:Nat) ≤ (1099511627776:Nat)) (gd (x2 = false → ∀ (x9 : Prop),List.Mem x9 ([] : List Prop) → x9) (gd (List.length x7 + (1:Nat) = List.length (List.take (List.length x7) x7 ++ ([]:List Int) :: ([]:List (List Int)))) (gd (preD n x0 x1 x2 x3 x4 x5 (List.take (List.length x7) x7 ++ ([]:List Int) :: ([]:List (List Int)))) (gd ((0:Int) ≤ wr .i64 (wr .i64 ((↑(List.length x7):Int) - (1:Int)) + (1:Int)) ∧ wr .i64 (wr .i64 ((↑(List.length x7):Int) - (1:Int)) + (1:Int)) ≤ (↑(List.length (List.take (List.length x7) x7 ++ ([]:List Int) :: ([]:List (List Int)))):Int)) (gd (x2 = false → ∀ (x9 : Prop),List.Mem x9 ([] : List Prop) → x9) (gd (Int.toNat (wr .i64 (wr .i64 ((↑(List.length x7):Int) - (1:Int)) + (1:Int))) = List.length (List.take (Int.toNat (wr .i64 (wr .i64 ((↑(List.length x7):Int) - (1:Int)) + (1:Int)))) (List.take (List.length x7) x7 ++ ([]:List Int) :: ([]:List (List Int))))) (some ((true,x0,x1,x2,x3,x4,x5,filD x0 x1 x4 n x3 (List.take (List.length x7) x7 ++ ([]:List Int) :: ([]:List (List Int))) x5 x6,List.take (Int.toNat (wr .i64 (wr .i64 ((↑(List.length x7):Int) - (1:Int)) + (1:Int)))) (List.take (List.length x7) x7 ++ ([]:List Int) :: ([]:List (List Int))),()) : Bool × List Int × List Int × Bool × List Int × Int × List Int × Int × List (List Int) × Unit)))))))))) else gd ((0:Int) ≤ wr .i64 ((↑(List.length x7):Int) - (1:Int)) ∧ List.length x0 ≤ (1000:Nat)) (gd ((0:Int) ≤ wr .i64 ((↑(List.length x7):Int) - (1:Int)) ∧ wr .i64 ((↑(List.length x7):Int) - (1:Int)) < (↑(List.length x7):Int)) (gd ((0:Nat) + Int.toNat (wr .i64 ((↑(List.length x7):Int) - (1:Int))) < List.length x7) (gd ((0:Nat) + List.length x7 ≤ List.length x7) (gd (atP x0 (List.take (List.length x7) (List.drop (0:Nat) x7)) (wr .i64 (wr .i64 ((↑(List.length x7):Int) - (1:Int)) - (1:Int))) (g77d_c0 x0 x7)) (gd ((0:Int) ≤ wr .i64 ((↑(List.length x7):Int) - (1:Int)) ∧ wr .i64 ((↑(List.length x7):Int) - (1:Int)) < (↑(List.length x7):Int)) (gd ((0:Nat) + Int.toNat (wr .i64 ((↑(List.length x7):Int) - (1:Int))) < List.length x7) (bif g77d_c3 x7 then gd ((0:Nat) + List.length x7 ≤ List.length x7) (gd (atP x0 (List.take (List.length x7) (List.drop (0:Nat) x7)) (wr .i64 ((↑(List.length x7):Int) - (1:Int))) (wr .i64 (g77d_c0 x0 x7 - (1:Int)))) (gd (x2 = false → ∀ (x9 : Prop),List.Mem x9 ([] : List Prop) → x9) (gd (List.length x7 = List.length x7) (whileO (fun (d9 : Int × List Int × List Int × Bool × List Int × Int × List Int × Int × List (List Int) × Unit)=>bif ile d9.1 d9.2.2.2.2.2.1 then gd (d9.2.2.2.1 = true) (gd ((0:Int) ≤ wr .i64 ((↑(List.length x7):Int) - (1:Int)) ∧ wr .i64 ((↑(List.length x7):Int) - (1:Int)) < (↑(List.length d9.2.2.2.2.2.2.2.2.1):Int)) (gd ((0:Nat) + Int.toNat (wr .i64 ((↑(List.length x7):Int) - (1:Int))) < List.length d9.2.2.2.2.2.2.2.2.1) (gd ((0:Nat) + Int.toNat (wr .i64 ((↑(List.length x7):Int) - (1:Int))) < List.length d9.2.2.2.2.2.2.2.2.1) (gd (List.length (List.getD d9.2.2.2.2.2.2.2.2.1 ((0:Nat) + Int.toNat (wr .i64 ((↑(List.length x7):Int) - (1:Int)))) ([]:List Int)) ≤ List.length (List.getD d9.2.2.2.2.2.2.2.2.1 ((0:Nat) + Int.toNat (wr .i64 ((↑(List.length x7):Int) - (1:Int)))) ([]:List Int))) (gd ((List.length (List.getD d9.2.2.2.2.2.2.2.2.1 ((0:Nat) + Int.toNat (wr .i64 ((↑(List.length x7):Int) - (1:Int)))) ([]:List Int)) + (1:Nat)) * (8:Nat) ≤ (1099511627776:Nat)) (gd ((0:Int) ≤ wr .i64 ((↑(List.length x7):Int) - (1:Int)) ∧ wr .i64 ((↑(List.length x7):Int) - (1:Int)) < (↑(List.length d9.2.2.2.2.2.2.2.2.1):Int)) (gd ((0:Nat) + Int.toNat (wr .i64 ((↑(List.length x7):Int) - (1:Int))) < List.length (List.set d9.2.2.2.2.2.2.2.2.1 ((0:Nat) + Int.toNat (wr .i64 ((↑(List.length x7):Int) - (1:Int)))) (List.take (List.length (List.getD d9.2.2.2.2.2.2.2.2.1 ((0:Nat) + Int.toNat (wr .i64 ((↑(List.length x7):Int) - (1:Int)))) ([]:List Int))) (List.getD d9.2.2.2.2.2.2.2.2.1 ((0:Nat) + Int.toNat (wr .i64 ((↑(List.length x7):Int) - (1:Int)))) ([]:List Int)) ++ d9.1 :: ([]:List Int)))) (gd ((0:Nat) + Int.toNat (wr .i64 ((↑(List.length x7):Int) - (1:Int))) = (0:Nat) + Int.toNat (wr .i64 ((↑(List.length x7):Int) - (1:Int)))) (gd ((0:Nat) + Int.toNat (wr .i64 ((↑(List.length x7):Int) - (1:Int))) = (0:Nat) + Int.toNat (wr .i64 ((↑(List.length x7):Int) - (1:Int)))) (gd (List.length (List.getD d9.2.2.2.2.2.2.2.2.1 ((0:Nat) + Int.toNat (wr .i64 ((↑(List.length x7):Int) - (1:Int)))) ([]:List Int)) + (1:Nat) = List.length (List.getD (List.set d9.2.2.2.2.2.2.2.2.1 ((0:Nat) + Int.toNat (wr .i64 ((↑(List.length x7):Int) - (1:Int)))) (List.take (List.length (List.getD d9.2.2.2.2.2.2.2.2.1 ((0:Nat) + Int.toNat (wr .i64 ((↑(List.length x7):Int) - (1:Int)))) ([]:List Int))) (List.getD d9.2.2.2.2.2.2.2.2.1 ((0:Nat) + Int.toNat (wr .i64 ((↑(List.length x7):Int) - (1:Int)))) ([]:List Int)) ++ d9.1 :: ([]:List Int))) ((0:Nat) + Int.toNat (wr .i64 ((↑(List.length x7):Int) - (1:Int)))) ([]:List Int))) (gd (d9.2.2.2.1 = false → ∀ (x10 : Prop),List.Mem x10 ([] : List Prop) → x10) (gd (List.length d9.2.2.2.2.2.2.2.2.1 = List.length (List.set d9.2.2.2.2.2.2.2.2.1 ((0:Nat) + Int.toNat (wr .i64 ((↑(List.length x7):Int) - (1:Int)))) (List.take (List.length (List.getD d9.2.2.2.2.2.2.2.2.1 ((0:Nat) + Int.toNat (wr .i64 ((↑(List.length x7):Int) - (1:Int)))) ([]:List Int))) (List.getD d9.2.2.2.2.2.2.2.2.1 ((0:Nat) + Int.toNat (wr .i64 ((↑(List.length x7):Int) - (1:Int)))) ([]:List Int)) ++ d9.1 :: ([]:List Int)))) (gd (preD n d9.2.1 d9.2.2.1 d9.2.2.2.1 d9.2.2.2.2.1 d9.2.2.2.2.2.1 d9.2.2.2.2.2.2.1 (List.set d9.2.2.2.2.2.2.2.2.1 ((0:Nat) + Int.toNat (wr .i64 ((↑(List.length x7):Int) - (1:Int)))) (List.take (List.length (List.getD d9.2.2.2.2.2.2.2.2.1 ((0:Nat) + Int.toNat (wr .i64 ((↑(List.length x7):Int) - (1:Int)))) ([]:List Int))) (List.getD d9.2.2.2.2.2.2.2.2.1 ((0:Nat) + Int.toNat (wr .i64 ((↑(List.length x7):Int) - (1:Int)))) ([]:List Int)) ++ d9.1 :: ([]:List Int)))) (gd ((0:Int) ≤ wr .i64 ((↑(List.length x7):Int) - (1:Int)) ∧ wr .i64 ((↑(List.length x7):Int) - (1:Int)) < (↑(List.length (List.set d9.2.2.2.2.2.2.2.2.1 ((0:Nat) + Int.toNat (wr .i64 ((↑(List.length x7):Int) - (1:Int)))) (List.take (List.length (List.getD d9.2.2.2.2.2.2.2.2.1 ((0:Nat) + Int.toNat (wr .i64 ((↑(List.length x7):Int) - (1:Int)))) ([]:List Int))) (List.getD d9.2.2.2.2.2.2.2.2.1 ((0:Nat) + Int.toNat (wr .i64 ((↑(List.length x7):Int) - (1:Int)))) ([]:List Int)) ++ d9.1 :: ([]:List Int)))):Int)) (gd ((0:Nat) + Int.toNat (wr .i64 ((↑(List.length x7):Int) - (1:Int))) < List.length (List.set d9.2.2.2.2.2.2.2.2.1 ((0:Nat) + Int.toNat (wr .i64 ((↑(List.length x7):Int) - (1:Int)))) (List.take (List.length (List.getD d9.2.2.2.2.2.2.2.2.1 ((0:Nat) + Int.toNat (wr .i64 ((↑(List.length x7):Int) - (1:Int)))) ([]:List Int))) (List.getD d9.2.2.2.2.2.2.2.2.1 ((0:Nat) + Int.toNat (wr .i64 ((↑(List.length x7):Int) - (1:Int)))) ([]:List Int)) ++ d9.1 :: ([]:List Int)))) (gd ((0:Int) ≤ wr .i64 ((↑(List.length x7):Int) - (1:Int)) ∧ wr .i64 ((↑(List.length x7):Int) - (1:Int)) < (↑(List.length (List.set d9.2.2.2.2.2.2.2.2.1 ((0:Nat) + Int.toNat (wr .i64 ((↑(List.length x7):Int) - (1:Int)))) (List.take (List.length (List.getD d9.2.2.2.2.2.2.2.2.1 ((0:Nat) + Int.toNat (wr .i64 ((↑(List.length x7):Int) - (1:Int)))) ([]:List Int))) (List.getD d9.2.2.2.2.2.2.2.2.1 ((0:Nat) + Int.toNat (wr .i64 ((↑(List.length x7):Int) - (1:Int)))) ([]:List Int)) ++ d9.1 :: ([]:List Int)))):Int)) (gd ((0:Nat) + Int.toNat (wr .i64 ((↑(List.length x7):Int) - (1:Int))) < List.length (List.set d9.2.2.2.2.2.2.2.2.1 ((0:Nat) + Int.toNat (wr .i64 ((↑(List.length x7):Int) - (1:Int)))) (List.take (List.length (List.getD d9.2.2.2.2.2.2.2.2.1 ((0:Nat) + Int.toNat (wr .i64 ((↑(List.length x7):Int) - (1:Int)))) ([]:List Int))) (List.getD d9.2.2.2.2.2.2.2.2.1 ((0:Nat) + Int.toNat (wr .i64 ((↑(List.length x7):Int) - (1:Int)))) ([]:List Int)) ++ d9.1 :: ([]:List Int)))) (gd ((0:Int) ≤ wr .i64 (g77d_c5 x7 d9 - (1:Int)) ∧ wr .i64 (g77d_c5 x7 d9 - (1:Int)) ≤ (↑(List.length (List.getD (List.set d9.2.2.2.2.2.2.2.2.1 ((0:Nat) + Int.toNat (wr .i64 ((↑(List.length x7):Int) - (1:Int)))) (List.take (List.length (List.getD d9.2.2.2.2.2.2.2.2.1 ((0:Nat) + Int.toNat (wr .i64 ((↑(List.length x7):Int) - (1:Int)))) ([]:List Int))) (List.getD d9.2.2.2.2.2.2.2.2.1 ((0:Nat) + Int.toNat (wr .i64 ((↑(List.length x7):Int) - (1:Int)))) ([]:List Int)) ++ d9.1 :: ([]:List Int))) ((0:Nat) + Int.toNat (wr .i64 ((↑(List.length x7):Int) - (1:Int)))) ([]:List Int))):Int)) (gd ((0:Int) ≤ wr .i64 ((↑(List.length x7):Int) - (1:Int)) ∧ wr .i64 ((↑(List.length x7):Int) - (1:Int)) < (↑(List.length (List.set d9.2.2.2.2.2.2.2.2.1 ((0:Nat) + Int.toNat (wr .i64 ((↑(List.length x7):Int) - (1:Int)))) (List.take (List.length (List.getD d9.2.2.2.2.2.2.2.2.1 ((0:Nat) + Int.toNat (wr .i64 ((↑(List.length x7):Int) - (1:Int)))) ([]:List Int))) (List.getD d9.2.2.2.2.2.2.2.2.1 ((0:Nat) + Int.toNat (wr .i64 ((↑(List.length x7):Int) - (1:Int)))) ([]:List Int)) ++ d9.1 :: ([]:List Int)))):Int)) (gd ((0:Nat) + Int.toNat (wr .i64 ((↑(List.length x7):Int) - (1:Int))) < List.length (List.set d9.2.2.2.2.2.2.2.2.1 ((0:Nat) + Int.toNat (wr .i64 ((↑(List.length x7):Int) - (1:Int)))) (List.take (List.length (List.getD d9.2.2.2.2.2.2.2.2.1 ((0:Nat) + Int.toNat (wr .i64 ((↑(List.length x7):Int) - (1:Int)))) ([]:List Int))) (List.getD d9.2.2.2.2.2.2.2.2.1 ((0:Nat) + Int.toNat (wr .i64 ((↑(List.length x7):Int) - (1:Int)))) ([]:List Int)) ++ d9.1 :: ([]:List Int)))) (gd ((0:Nat) + Int.toNat (wr .i64 ((↑(List.length x7):Int) - (1:Int))) = (0:Nat) + Int.toNat (wr .i64 ((↑(List.length x7):Int) - (1:Int)))) (gd (Int.toNat (wr .i64 (g77d_c5 x7 d9 - (1:Int))) ≤ List.length (List.getD (List.set d9.2.2.2.2.2.2.2.2.1 ((0:Nat) + Int.toNat (wr .i64 ((↑(List.length x7):Int) - (1:Int)))) (List.take (List.length (List.getD d9.2.2.2.2.2.2.2.2.1 ((0:Nat) + Int.toNat (wr .i64 ((↑(List.length x7):Int) - (1:Int)))) ([]:List Int))) (List.getD d9.2.2.2.2.2.2.2.2.1 ((0:Nat) + Int.toNat (wr .i64 ((↑(List.length x7):Int) - (1:Int)))) ([]:List Int)) ++ d9.1 :: ([]:List Int))) ((0:Nat) + Int.toNat (wr .i64 ((↑(List.length x7):Int) - (1:Int)))) ([]:List Int))) (gd (d9.2.2.2.1 = true) (gd (d9.2.2.2.1 = false → ∀ (x10 : Prop),List.Mem x10 ([] : List Prop) → x10) (gd (List.length (List.set d9.2.2.2.2.2.2.2.2.1 ((0:Nat) + Int.toNat (wr .i64 ((↑(List.length x7):Int) - (1:Int)))) (List.take (List.length (List.getD d9.2.2.2.2.2.2.2.2.1 ((0:Nat) + Int.toNat (wr .i64 ((↑(List.length x7):Int) - (1:Int)))) ([]:List Int))) (List.getD d9.2.2.2.2.2.2.2.2.1 ((0:Nat) + Int.toNat (wr .i64 ((↑(List.length x7):Int) - (1:Int)))) ([]:List Int)) ++ d9.1 :: ([]:List Int))) = List.length (List.set (List.set d9.2.2.2.2.2.2.2.2.1 ((0:Nat) + Int.toNat (wr .i64 ((↑(List.length x7):Int) - (1:Int)))) (List.take (List.length (List.getD d9.2.2.2.2.2.2.2.2.1 ((0:Nat) + Int.toNat (wr .i64 ((↑(List.length x7):Int) - (1:Int)))) ([]:List Int))) (List.getD d9.2.2.2.2.2.2.2.2.1 ((0:Nat) + Int.toNat (wr .i64 ((↑(List.length x7):Int) - (1:Int)))) ([]:List Int)) ++ d9.1 :: ([]:List Int))) ((0:Nat) + Int.toNat (wr .i64 ((↑(List.length x7):Int) - (1:Int)))) (List.take (Int.toNat (wr .i64 (g77d_c5 x7 d9 - (1:Int)))) (List.getD (List.set d9.2.2.2.2.2.2.2.2.1 ((0:Nat) + Int.toNat (wr .i64 ((↑(List.length x7):Int) - (1:Int)))) (List.take (List.length (List.getD d9.2.2.2.2.2.2.2.2.1 ((0:Nat) + Int.toNat (wr .i64 ((↑(List.length x7):Int) - (1:Int)))) ([]:List Int))) (List.getD d9.2.2.2.2.2.2.2.2.1 ((0:Nat) + Int.toNat (wr .i64 ((↑(List.length x7):Int) - (1:Int)))) ([]:List Int)) ++ d9.1 :: ([]:List Int))) ((0:Nat) + Int.toNat (wr .i64 ((↑(List.length x7):Int) - (1:Int)))) ([]:List Int))))) (some (Lp.go ((wr .i64 (d9.1 + (1:Int)),d9.2.1,d9.2.2.1,d9.2.2.2.1,d9.2.2.2.2.1,d9.2.2.2.2.2.1,d9.2.2.2.2.2.2.1,filD d9.2.1 d9.2.2.1 d9.2.2.2.2.2.1 n d9.2.2.2.2.1 (List.set d9.2.2.2.2.2.2.2.2.1 ((0:Nat) + Int.toNat (wr .i64 ((↑(List.length x7):Int) - (1:Int)))) (List.take (List.length (List.getD d9.2.2.2.2.2.2.2.2.1 ((0:Nat) + Int.toNat (wr .i64 ((↑(List.length x7):Int) - (1:Int)))) ([]:List Int))) (List.getD d9.2.2.2.2.2.2.2.2.1 ((0:Nat) + Int.toNat (wr .i64 ((↑(List.length x7):Int) - (1:Int)))) ([]:List Int)) ++ d9.1 :: ([]:List Int))) d9.2.2.2.2.2.2.1 d9.2.2.2.2.2.2.2.1,List.set (List.set d9.2.2.2.2.2.2.2.2.1 ((0:Nat) + Int.toNat (wr .i64 ((↑(List.length x7):Int) - (1:Int)))) (List.take (List.length (List.getD d9.2.2.2.2.2.2.2.2.1 ((0:Nat) + Int.toNat (wr .i64 ((↑(List.length x7):Int) - (1:Int)))) ([]:List Int))) (List.getD d9.2.2.2.2.2.2.2.2.1 ((0:Nat) + Int.toNat (wr .i64 ((↑(List.length x7):Int) - (1:Int)))) ([]:List Int)) ++ d9.1 :: ([]:List Int))) ((0:Nat) + Int.toNat (wr .i64 ((↑(List.length x7):Int) - (1:Int)))) (List.take (Int.toNat (wr .i64 (g77d_c5 x7 d9 - (1:Int)))) (List.getD (List.set d9.2.2.2.2.2.2.2.2.1 ((0:Nat) + Int.toNat (wr .i64 ((↑(List.length x7):Int) - (1:Int)))) (List.take (List.length (List.getD d9.2.2.2.2.2.2.2.2.1 ((0:Nat) + Int.toNat (wr .i64 ((↑(List.length x7):Int) - (1:Int)))) ([]:List Int))) (List.getD d9.2.2.2.2.2.2.2.2.1 ((0:Nat) + Int.toNat (wr .i64 ((↑(List.length x7):Int) - (1:Int)))) ([]:List Int)) ++ d9.1 :: ([]:List Int))) ((0:Nat) + Int.toNat (wr .i64 ((↑(List.length x7):Int) - (1:Int)))) ([]:List Int))),()) : Int × List Int × List Int × Bool × List Int × Int × List Int × Int × List (List Int) × Unit)))))))))))))))))))))))))))) else gd (d9.2.2.2.1 = false → ∀ (x10 : Prop),List.Mem x10 ([] : List Prop) → x10) (gd (List.length d9.2.2.2.2.2.2.2.2.1 = List.length d9.2.2.2.2.2.2.2.2.1) (some (Lp.out ((true,d9.2.1,d9.2.2.1,d9.2.2.2.1,d9.2.2.2.2.1,d9.2.2.2.2.2.1,d9.2.2.2.2.2.2.1,d9.2.2.2.2.2.2.2.1,d9.2.2.2.2.2.2.2.2.1,()) : Bool × List Int × List Int × Bool × List Int × Int × List Int × Int × List (List Int) × Unit))))) ((imax (imax (1:Int) (wr .i64 (g77d_c2 x0 x7 + (1:Int)))) (g77d_c4 x0 x7),x0,x1,x2,x3,x4,x5,x6,x7,()) : Int × List Int × List Int × Bool × List Int × Int × List Int × Int × List (List Int) × Unit))))) else gd (x2 = false → ∀ (x9 : Prop),List.Mem x9 ([] : List Prop) → x9) (gd (List.length x7 = List.length x7) (whileO (fun (d9 : Int × List Int × List Int × Bool × List Int × Int × List Int × Int × List (List Int) × Unit)=>bif ile d9.1 d9.2.2.2.2.2.1 then gd (d9.2.2.2.1 = true) (gd ((0:Int) ≤ wr .i64 ((↑(List.length x7):Int) - (1:Int)) ∧ wr .i64 ((↑(List.length x7):Int) - (1:Int)) < (↑(List.length d9.2.2.2.2.2.2.2.2.1):Int)) (gd ((0:Nat) + Int.toNat (wr .i64 ((↑(List.length x7):Int) - (1:Int))) < List.length d9.2.2.2.2.2.2.2.2.1) (gd ((0:Nat) + Int.toNat (wr .i64 ((↑(List.length x7):Int) - (1:Int))) < List.length d9.2.2.2.2.2.2.2.2.1) (gd (List.length (List.getD d9.2.2.2.2.2.2.2.2.1 ((0:Nat) + Int.toNat (wr .i64 ((↑(List.length x7):Int) - (1:Int)))) ([]:List Int)) ≤ List.length (List.getD d9.2.2.2.2.2.2.2.2.1 ((0:Nat) + Int.toNat (wr .i64 ((↑(List.length x7):Int) - (1:Int)))) ([]:List Int))) (gd ((List.length (List.getD d9.2.2.2.2.2.2.2.2.1 ((0:Nat) + Int.toNat (wr .i64 ((↑(List.length x7):Int) - (1:Int)))) ([]:List Int)) + (1:Nat)) * (8:Nat) ≤ (1099511627776:Nat)) (gd ((0:Int) ≤ wr .i64 ((↑(List.length x7):Int) - (1:Int)) ∧ wr .i64 ((↑(List.length x7):Int) - (1:Int)) < (↑(List.length d9.2.2.2.2.2.2.2.2.1):Int)) (gd ((0:Nat) + Int.toNat (wr .i64 ((↑(List.length x7):Int) - (1:Int))) < List.length (List.set d9.2.2.2.2.2.2.2.2.1 ((0:Nat) + Int.toNat (wr .i64 ((↑(List.length x7):Int) - (1:Int)))) (List.take (List.length (List.getD d9.2.2.2.2.2.2.2.2.1 ((0:Nat) + Int.toNat (wr .i64 ((↑(List.length x7):Int) - (1:Int)))) ([]:List Int))) (List.getD d9.2.2.2.2.2.2.2.2.1 ((0:Nat) + Int.toNat (wr .i64 ((↑(List.length x7):Int) - (1:Int)))) ([]:List Int)) ++ d9.1 :: ([]:List Int)))) (gd ((0:Nat) + Int.toNat (wr .i64 ((↑(List.length x7):Int) - (1:Int))) = (0:Nat) + Int.toNat (wr .i64 ((↑(List.length x7):Int) - (1:Int)))) (gd ((0:Nat) + Int.toNat (wr .i64 ((↑(List.length x7):Int) - (1:Int))) = (0:Nat) + Int.toNat (wr .i64 ((↑(List.length x7):Int) - (1:Int)))) (gd (List.length (List.getD d9.2.2.2.2.2.2.2.2.1 ((0:Nat) + Int.toNat (wr .i64 ((↑(List.length x7):Int) - (1:Int)))) ([]:List Int)) + (1:Nat) = List.length (List.getD (List.set d9.2.2.2.2.2.2.2.2.1 ((0:Nat) + Int.toNat (wr .i64 ((↑(List.length x7):Int) - (1:Int)))) (List.take (List.length (List.getD d9.2.2.2.2.2.2.2.2.1 ((0:Nat) + Int.toNat (wr .i64 ((↑(List.length x7):Int) - (1:Int)))) ([]:List Int))) (List.getD d9.2.2.2.2.2.2.2.2.1 ((0:Nat) + Int.toNat (wr .i64 ((↑(List.length x7):Int) - (1:Int)))) ([]:List Int)) ++ d9.1 :: ([]:List Int))) ((0:Nat) + Int.toNat (wr .i64 ((↑(List.length x7):Int) - (1:Int)))) ([]:List Int))) (gd (d9.2.2.2.1 = false → ∀ (x10 : Prop),List.Mem x10 ([] : List Prop) → x10) (gd (List.length d9.2.2.2.2.2.2.2.2.1 = List.length (List.set d9.2.2.2.2.2.2.2.2.1 ((0:Nat) + Int.toNat (wr .i64 ((↑(List.length x7):Int) - (1:Int)))) (List.take (List.length (List.getD d9.2.2.2.2.2.2.2.2.1 ((0:Nat) + Int.toNat (wr .i64 ((↑(List.length x7):Int) - (1:Int)))) ([]:List Int))) (List.getD d9.2.2.2.2.2.2.2.2.1 ((0:Nat) + Int.toNat (wr .i64 ((↑(List.length x7):Int) - (1:Int)))) ([]:List Int)) ++ d9.1 :: ([]:List Int)))) (gd (preD n d9.2.1 d9.2.2.1 d9.2.2.2.1 d9.2.2.2.2.1 d9.2.2.2.2.2.1 d9.2.2.2.2.2.2.1 (List.set d9.2.2.2.2.2.2.2.2.1 ((0:Nat) + Int.toNat (wr .i64 ((↑(List.length x7):Int) - (1:Int)))) (List.take (List.length (List.getD d9.2.2.2.2.2.2.2.2.1 ((0:Nat) + Int.toNat (wr .i64 ((↑(List.length x7):Int) - (1:Int)))) ([]:List Int))) (List.getD d9.2.2.2.2.2.2.2.2.1 ((0:Nat) + Int.toNat (wr .i64 ((↑(List.length x7):Int) - (1:Int)))) ([]:List Int)) ++ d9.1 :: ([]:List Int)))) (gd ((0:Int) ≤ wr .i64 ((↑(List.length x7):Int) - (1:Int)) ∧ wr .i64 ((↑(List.length x7):Int) - (1:Int)) < (↑(List.length (List.set d9.2.2.2.2.2.2.2.2.1 ((0:Nat) + Int.toNat (wr .i64 ((↑(List.length x7):Int) - (1:Int)))) (List.take (List.length (List.getD d9.2.2.2.2.2.2.2.2.1 ((0:Nat) + Int.toNat (wr .i64 ((↑(List.length x7):Int) - (1:Int)))) ([]:List Int))) (List.getD d9.2.2.2.2.2.2.2.2.1 ((0:Nat) + Int.toNat (wr .i64 ((↑(List.length x7):Int) - (1:Int)))) ([]:List Int)) ++ d9.1 :: ([]:List Int)))):Int)) (gd ((0:Nat) + Int.toNat (wr .i64 ((↑(List.length x7):Int) - (1:Int))) < List.length (List.set d9.2.2.2.2.2.2.2.2.1 ((0:Nat) + Int.toNat (wr .i64 ((↑(List.length x7):Int) - (1:Int)))) (List.take (List.length (List.getD d9.2.2.2.2.2.2.2.2.1 ((0:Nat) + Int.toNat (wr .i64 ((↑(List.length x7):Int) - (1:Int)))) ([]:List Int))) (List.getD d9.2.2.2.2.2.2.2.2.1 ((0:Nat) + Int.toNat (wr .i64 ((↑(List.length x7):Int) - (1:Int)))) ([]:List Int)) ++ d9.1 :: ([]:List Int)))) (gd ((0:Int) ≤ wr .i64 ((↑(List.length x7):Int) - (1:Int)) ∧ wr .i64 ((↑(List.length x7):Int) - (1:Int)) < (↑(List.length (List.set d9.2.2.2.2.2.2.2.2.1 ((0:Nat) + Int.toNat (wr .i64 ((↑(List.length x7):Int) - (1:Int)))) (List.take (List.length (List.getD d9.2.2.2.2.2.2.2.2.1 ((0:Nat) + Int.toNat (wr .i64 ((↑(List.length x7):Int) - (1:Int)))) ([]:List Int))) (List.getD d9.2.2.2.2.2.2.2.2.1 ((0:Nat) + Int.toNat (wr .i64 ((↑(List.length x7):Int) - (1:Int)))) ([]:List Int)) ++ d9.1 :: ([]:List Int)))):Int)) (gd ((0:Nat) + Int.toNat (wr .i64 ((↑(List.length x7):Int) - (1:Int))) < List.length (List.set d9.2.2.2.2.2.2.2.2.1 ((0:Nat) + Int.toNat (wr .i64 ((↑(List.length x7):Int) - (1:Int)))) (List.take (List.length (List.getD d9.2.2.2.2.2.2.2.2.1 ((0:Nat) + Int.toNat (wr .i64 ((↑(List.length x7):Int) - (1:Int)))) ([]:List Int))) (List.getD d9.2.2.2.2.2.2.2.2.1 ((0:Nat) + Int.toNat (wr .i64 ((↑(List.length x7):Int) - (1:Int)))) ([]:List Int)) ++ d9.1 :: ([]:List Int)))) (gd ((0:Int) ≤ wr .i64 (g77d_c6 x7 d9 - (1:Int)) ∧ wr .i64 (g77d_c6 x7 d9 - (1:Int)) ≤ (↑(List.length (List.getD (List.set d9.2.2.2.2.2.2.2.2.1 ((0:Nat) + Int.toNat (wr .i64 ((↑(List.length x7):Int) - (1:Int)))) (List.take (List.length (List.getD d9.2.2.2.2.2.2.2.2.1 ((0:Nat) + Int.toNat (wr .i64 ((↑(List.length x7):Int) - (1:Int)))) ([]:List Int))) (List.getD d9.2.2.2.2.2.2.2.2.1 ((0:Nat) + Int.toNat (wr .i64 ((↑(List.length x7):Int) - (1:Int)))) ([]:List Int)) ++ d9.1 :: ([]:List Int))) ((0:Nat) + Int.toNat (wr .i64 ((↑(List.length x7):Int) - (1:Int)))) ([]:List Int))):Int)) (gd ((0:Int) ≤ wr .i64 ((↑(List.length x7):Int) - (1:Int)) ∧ wr .i64 ((↑(List.length x7):Int) - (1:Int)) < (↑(List.length (List.set d9.2.2.2.2.2.2.2.2.1 ((0:Nat) + Int.toNat (wr .i64 ((↑(List.length x7):Int) - (1:Int)))) (List.take (List.length (List.getD d9.2.2.2.2.2.2.2.2.1 ((0:Nat) + Int.toNat (wr .i64 ((↑(List.length x7):Int) - (1:Int)))) ([]:List Int))) (List.getD d9.2.2.2.2.2.2.2.2.1 ((0:Nat) + Int.toNat (wr .i64 ((↑(List.length x7):Int) - (1:Int)))) ([]:List Int)) ++ d9.1 :: ([]:List Int)))):Int)) (gd ((0:Nat) + Int.toNat (wr .i64 ((↑(List.length x7):Int) - (1:Int))) < List.length (List.set d9.2.2.2.2.2.2.2.2.1 ((0:Nat) + Int.toNat (wr .i64 ((↑(List.length x7):Int) - (1:Int)))) (List.take (List.length (List.getD d9.2.2.2.2.2.2.2.2.1 ((0:Nat) + Int.toNat (wr .i64 ((↑(List.length x7):Int) - (1:Int)))) ([]:List Int))) (List.getD d9.2.2.2.2.2.2.2.2.1 ((0:Nat) + Int.toNat (wr .i64 ((↑(List.length x7):Int) - (1:Int)))) ([]:List Int)) ++ d9.1 :: ([]:List Int)))) (gd ((0:Nat) + Int.toNat (wr .i64 ((↑(List.length x7):Int) - (1:Int))) = (0:Nat) + Int.toNat (wr .i64 ((↑(List.length x7):Int) - (1:Int)))) (gd (Int.toNat (wr .i64 (g77d_c6 x7 d9 - (1:Int))) ≤ List.length (List.getD (List.set d9.2.2.2.2.2.2.2.2.1 ((0:Nat) + Int.toNat (wr .i64 ((↑(List.length x7):Int) - (1:Int)))) (List.take (List.length (List.getD d9.2.2.2.2.2.2.2.2.1 ((0:Nat) + Int.toNat (wr .i64 ((↑(List.length x7):Int) - (1:Int)))) ([]:List Int))) (List.getD d9.2.2.2.2.2.2.2.2.1 ((0:Nat) + Int.toNat (wr .i64 ((↑(List.length x7):Int) - (1:Int)))) ([]:List Int)) ++ d9.1 :: ([]:List Int))) ((0:Nat) + Int.toNat (wr .i64 ((↑(List.length x7):Int) - (1:Int)))) ([]:List Int))) (gd (d9.2.2.2.1 = true) (gd (d9.2.2.2.1 = false → ∀ (x10 : Prop),List.Mem x10 ([] : List Prop) → x10) (gd (List.length (List.set d9.2.2.2.2.2.2.2.2.1 ((0:Nat) + Int.toNat (wr .i64 ((↑(List.length x7):Int) - (1:Int)))) (List.take (List.length (List.getD d9.2.2.2.2.2.2.2.2.1 ((0:Nat) + Int.toNat (wr .i64 ((↑(List.length x7):Int) - (1:Int)))) ([]:List Int))) (List.getD d9.2.2.2.2.2.2.2.2.1 ((0:Nat) + Int.toNat (wr .i64 ((↑(List.length x7):Int) - (1:Int)))) ([]:List Int)) ++ d9.1 :: ([]:List Int))) = List.length (List.set (List.set d9.2.2.2.2.2.2.2.2.1 ((0:Nat) + Int.toNat (wr .i64 ((↑(List.length x7):Int) - (1:Int)))) (List.take (List.length (List.getD d9.2.2.2.2.2.2.2.2.1 ((0:Nat) + Int.toNat (wr .i64 ((↑(List.length x7):Int) - (1:Int)))) ([]:List Int))) (List.getD d9.2.2.2.2.2.2.2.2.1 ((0:Nat) + Int.toNat (wr .i64 ((↑(List.length x7):Int) - (1:Int)))) ([]:List Int)) ++ d9.1 :: ([]:List Int))) ((0:Nat) + Int.toNat (wr .i64 ((↑(List.length x7):Int) - (1:Int)))) (List.take (Int.toNat (wr .i64 (g77d_c6 x7 d9 - (1:Int)))) (List.getD (List.set d9.2.2.2.2.2.2.2.2.1 ((0:Nat) + Int.toNat (wr .i64 ((↑(List.length x7):Int) - (1:Int)))) (List.take (List.length (List.getD d9.2.2.2.2.2.2.2.2.1 ((0:Nat) + Int.toNat (wr .i64 ((↑(List.length x7):Int) - (1:Int)))) ([]:List Int))) (List.getD d9.2.2.2.2.2.2.2.2.1 ((0:Nat) + Int.toNat (wr .i64 ((↑(List.length x7):Int) - (1:Int)))) ([]:List Int)) ++ d9.1 :: ([]:List Int))) ((0:Nat) + Int.toNat (wr .i64 ((↑(List.length x7):Int) - (1:Int)))) ([]:List Int))))) (some (Lp.go ((wr .i64 (d9.1 + (1:Int)),d9.2.1,d9.2.2.1,d9.2.2.2.1,d9.2.2.2.2.1,d9.2.2.2.2.2.1,d9.2.2.2.2.2.2.1,filD d9.2.1 d9.2.2.1 d9.2.2.2.2.2.1 n d9.2.2.2.2.1 (List.set d9.2.2.2.2.2.2.2.2.1 ((0:Nat) + Int.toNat (wr .i64 ((↑(List.length x7):Int) - (1:Int)))) (List.take (List.length (List.getD d9.2.2.2.2.2.2.2.2.1 ((0:Nat) + Int.toNat (wr .i64 ((↑(List.length x7):Int) - (1:Int)))) ([]:List Int))) (List.getD d9.2.2.2.2.2.2.2.2.1 ((0:Nat) + Int.toNat (wr .i64 ((↑(List.length x7):Int) - (1:Int)))) ([]:List Int)) ++ d9.1 :: ([]:List Int))) d9.2.2.2.2.2.2.1 d9.2.2.2.2.2.2.2.1,List.set (List.set d9.2.2.2.2.2.2.2.2.1 ((0:Nat) + Int.toNat (wr .i64 ((↑(List.length x7):Int) - (1:Int)))) (List.take (List.length (List.getD d9.2.2.2.2.2.2.2.2.1 ((0:Nat) + Int.toNat (wr .i64 ((↑(List.length x7):Int) - (1:Int)))) ([]:List Int))) (List.getD d9.2.2.2.2.2.2.2.2.1 ((0:Nat) + Int.toNat (wr .i64 ((↑(List.length x7):Int) - (1:Int)))) ([]:List Int)) ++ d9.1 :: ([]:List Int))) ((0:Nat) + Int.toNat (wr .i64 ((↑(List.length x7):Int) - (1:Int)))) (List.take (Int.toNat (wr .i64 (g77d_c6 x7 d9 - (1:Int)))) (List.getD (List.set d9.2.2.2.2.2.2.2.2.1 ((0:Nat) + Int.toNat (wr .i64 ((↑(List.length x7):Int) - (1:Int)))) (List.take (List.length (List.getD d9.2.2.2.2.2.2.2.2.1 ((0:Nat) + Int.toNat (wr .i64 ((↑(List.length x7):Int) - (1:Int)))) ([]:List Int))) (List.getD d9.2.2.2.2.2.2.2.2.1 ((0:Nat) + Int.toNat (wr .i64 ((↑(List.length x7):Int) - (1:Int)))) ([]:List Int)) ++ d9.1 :: ([]:List Int))) ((0:Nat) + Int.toNat (wr .i64 ((↑(List.length x7):Int) - (1:Int)))) ([]:List Int))),()) : Int × List Int × List Int × Bool × List Int × Int × List Int × Int × List (List Int) × Unit)))))))))))))))))))))))))))) else gd (d9.2.2.2.1 = false → ∀ (x10 : Prop),List.Mem x10 ([] : List Prop) → x10) (gd (List.length d9.2.2.2.2.2.2.2.2.1 = List.length d9.2.2.2.2.2.2.2.2.1) (some (Lp.out ((true,d9.2.1,d9.2.2.1,d9.2.2.2.1,d9.2.2.2.2.1,d9.2.2.2.2.2.1,d9.2.2.2.2.2.2.1,d9.2.2.2.2.2.2.2.1,d9.2.2.2.2.2.2.2.2.1,()) : Bool × List Int × List Int × Bool × List Int × Int × List Int × Int × List (List Int) × Unit))))) ((imax (1:Int) (wr .i64 (g77d_c2 x0 x7 + (1:Int))),x0,x1,x2,x3,x4,x5,x6,x7,()) : Int × List Int × List Int × Bool × List Int × Int × List Int × Int × List (List Int) × Unit)))))))))))))))))))))))))))
noncomputable def g77d_sh : List LSh:=LSh.mk3 (((0,TV.ref (0) (1:Nat) (0:Nat) (0:Nat)) : Nat × TV) :: ((1,TV.fn (78) (TV.cons (TV.ref (1) (1:Nat) (0:Nat) (0:Nat)) (TV.cons (TV.ref (2) (1:Nat) (0:Nat) (0:Nat)) TV.nil))) : Nat × TV) :: ((9,TV.v (Ty.int IntKind.i64)) : Nat × TV) :: ([] : List (Nat × TV))) (TB.cells (TV.v (Ty.slice (Ty.int IntKind.i64)) :: TV.v (Ty.slice (Ty.int IntKind.i64)) :: TV.opt (TV.v (Ty.slice (Ty.int IntKind.i64))) :: TV.v (Ty.int IntKind.i64) :: TV.slf (4) (1) :: ([] : List TV)) :: TB.cells (TV.v (Ty.slice (Ty.int IntKind.i64)) :: ([] : List TV)) :: TB.cells (TV.v (Ty.int IntKind.i64) :: ([] : List TV)) :: TB.dead :: TB.nest (Ty.int IntKind.i64) :: ([] : List TB)) (4) :: ([] : List LSh)
noncomputable def g28 (x0 x1:List Int) : Option (Int × Int × Unit):=gd (List.length x0 ≤ (1000:Nat)) (gd ((!!shapeB x0) = true → (!!shapeB x0) = true) (gd ((!!shapeB x0) = true → (!!shapeB x0) = true) (gd ((!shapeB x0) = false → (!!shapeB x0) = true) (gd ((!bif !shapeB x0 then true else ilt (↑(List.length x1):Int) (1:Int)) = true → (!bif !shapeB x0 then true else ilt (↑(List.length x1):Int) (1:Int)) = true) (gd ((!bif !shapeB x0 then true else ilt (↑(List.length x1):Int) (1:Int)) = true → (!bif !shapeB x0 then true else ilt (↑(List.length x1):Int) (1:Int)) = true) (gd ((bif !shapeB x0 then true else ilt (↑(List.length x1):Int) (1:Int)) = false → (!bif !shapeB x0 then true else ilt (↑(List.length x1):Int) (1:Int)) = true) (gd ((!bif bif !shapeB x0 then true else ilt (↑(List.length x1):Int) (1:Int) then true else ilt (4:Int) (↑(List.length x1):Int)) = true → (!bif bif !shapeB x0 then true else ilt (↑(List.length x1):Int) (1:Int) then true else ilt (4:Int) (↑(List.length x1):Int)) = true ∧ (0:Nat) < List.length x1 ∧ List.length x1 ≤ (1000:Nat)) (gd ((!bif bif !shapeB x0 then true else ilt (↑(List.length x1):Int) (1:Int) then true else ilt (4:Int) (↑(List.length x1):Int)) = true → (!bif bif !shapeB x0 then true else ilt (↑(List.length x1):Int) (1:Int) then true else ilt (4:Int) (↑(List.length x1):Int)) = true) (gd ((bif bif !shapeB x0 then true else ilt (↑(List.length x1):Int) (1:Int) then true else ilt (4:Int) (↑(List.length x1):Int)) = false → (!bif bif !shapeB x0 then true else ilt (↑(List.length x1):Int) (1:Int) then true else ilt (4:Int) (↑(List.length x1):Int)) = true) (gd ((!bif bif bif !shapeB x0 then true else ilt (↑(List.length x1):Int) (1:Int) then true else ilt (4:Int) (↑(List.length x1):Int) then true else ilt (minL x1) (-3:Int)) = true → (!bif bif bif !shapeB x0 then true else ilt (↑(List.length x1):Int) (1:Int) then true else ilt (4:Int) (↑(List.length x1):Int) then true else ilt (minL x1) (-3:Int)) = true ∧ (0:Nat) < List.length x1 ∧ List.length x1 ≤ (1000:Nat)) (gd ((!bif bif bif !shapeB x0 then true else ilt (↑(List.length x1):Int) (1:Int) then true else ilt (4:Int) (↑(List.length x1):Int) then true else ilt (minL x1) (-3:Int)) = true → (!bif bif bif !shapeB x0 then true else ilt (↑(List.length x1):Int) (1:Int) then true else ilt (4:Int) (↑(List.length x1):Int) then true else ilt (minL x1) (-3:Int)) = true) (gd ((bif bif bif !shapeB x0 then true else ilt (↑(List.length x1):Int) (1:Int) then true else ilt (4:Int) (↑(List.length x1):Int) then true else ilt (minL x1) (-3:Int)) = false → (!bif bif bif !shapeB x0 then true else ilt (↑(List.length x1):Int) (1:Int) then true else ilt (4:Int) (↑(List.length x1):Int) then true else ilt (minL x1) (-3:Int)) = true) (bif bif bif bif bif !shapeB x0 then true else ilt (↑(List.length x1):Int) (1:Int) then true else ilt (4:Int) (↑(List.length x1):Int) then true else ilt (minL x1) (-3:Int) then true else ilt (3:Int) (maxL x1) then some (((0:Int),(2:Int),()) : Int × Int × Unit) else gd (true = true) (gd ((0:Nat) = (0:Nat)) (gd (preD (81:Nat) ([]:List Int) x0 true ([]:List Int) (↑(List.length x1):Int) x1 ([]:List (List Int))) (some ((filD ([]:List Int) x0 (↑(List.length x1):Int) (81:Nat) ([]:List Int) ([]:List (List Int)) x1 (0:Int),(0:Int),()) : Int × Int × Unit)))))))))))))))))
noncomputable def g28_sh : List LSh:=([] : List LSh)
end Go.Schur
namespace Go.Schur
open Go Go.Ab Go.Proofs
theorem whileO_from {S X : Type} {step : S → Option (Lp S X)} {s0 : S} (st : Nat → S) (n:Nat) (x : X) (h0 : st 0 = s0) (hgo : ∀ i,i < n → step (st i) = some (.go (st (i + 1)))) (hout : step (st n) = some (.out x)) : whileO step s0 = some x:=by
  rw [← h0];exact whileO_ind st n x hgo hout
theorem goal78 : con78.goal Try.prog (spS [] []) g78_sh [900000] lm30:=by
  have e : (∀ (rows:List (List Int)) (x:List Int) (s:Int),inX x rows → g78 rows x s = some (true,rows,x,wr .i64 (s + valW x rows),())) = con78.goal Try.prog (spS [] []) g78_sh [900000] lm30:=by kernel_rfl
  rw [← e]
  rintro rows x s ⟨hx,hr,hk⟩
  unfold g78
  rw [gd_pos rfl]
  refine whileO_from (fun i=>(valW x (rows.take i),((i:Nat):Int),rows,x,s,())) rows.length _ rfl (fun i hi=>?_) ?_
  · have hg : rows.getD i [] = rows[i]:=by rw [List.getD_eq_getElem?_getD,List.getElem?_eq_getElem hi];rfl
    obtain ⟨hl,hkk⟩:=hk rows[i] (List.getElem_mem hi)
    have hstep : valW x (rows.take (i + 1)) = rowW x rows[i] (valW x (rows.take i)):=by
      unfold valW
      rw [List.take_succ_eq_append_getElem hi,List.foldl_append];rfl
    simp only [ilt_iff.2 (show (i:Int) < (rows.length:Int) by omega),cond_true,Int.toNat_natCast,Nat.zero_add,hg]
    rw [gd_pos ⟨by omega,by omega⟩,gd_pos hi,gd_true,gd_pos hi]
    refine whileO_from (fun j=>(rowW x (rows[i].take j) (valW x (rows.take i)),((rows[i].length:Nat):Int),((j:Nat):Int),rows,x,s,((i:Nat):Int),())) rows[i].length _ rfl (fun j hj=>?_) ?_
    · unfold g78_l0
      have hgj : rows[i].getD j 0 = rows[i][j]:=by rw [List.getD_eq_getElem?_getD,List.getElem?_eq_getElem hj];rfl
      have hb:=hkk rows[i][j] (List.getElem_mem hj)
      have w1 : wr .i64 (rows[i][j] - 1) = rows[i][j] - 1:=wr_id (by omega)
      have w2 : wr .i64 ((j:Int) + 1) = (j + 1:Nat):=(wr_id (by omega)).trans (by omega)
      have hs2 : rowW x (rows[i].take (j + 1)) (valW x (rows.take i)) = wr .i64 (rowW x (rows[i].take j) (valW x (rows.take i)) * x.getD (rows[i][j] - 1).toNat 0):=by
        unfold rowW
        rw [List.take_succ_eq_append_getElem hj,List.foldl_append];rfl
      simp only [Int.toNat_natCast,Nat.zero_add,hg,ilt_iff.2 (show (j:Int) < (rows[i].length:Int) by omega),cond_true,hgj,w1,w2,hs2]
      rw [gd_pos ⟨by omega,by omega⟩,gd_pos hj,gd_pos ⟨by omega,by omega⟩,gd_true,gd_pos hi]
    · unfold g78_l0
      have w2 : wr .i64 ((i:Int) + 1) = (i + 1:Nat):=(wr_id (by omega)).trans (by omega)
      simp only [Int.toNat_natCast,Nat.zero_add,hg,ilt_false.2 (Int.le_refl _),cond_false,List.take_length,w2,hstep,gd_true]
  · simp only [ilt_false.2 (Int.le_refl _),cond_false,List.take_length]
set_option maxRecDepth 100000 in
theorem ok78 : con78.Ok Try.prog:=SCon.of_goal mixed okN okS0 con78 goal78
theorem goal75 : con75.goal Try.prog (spOf []) g75_sh [] lm30:=by
  have e : (∀ (l:List Int),(0 < l.length ∧ l.length ≤ 1000) → g75 l = some (minL l,())) = con75.goal Try.prog (spOf []) g75_sh [] lm30:=by kernel_rfl
  rw [← e]
  rintro l ⟨h1,h2⟩
  unfold g75
  rw [ilt_false.2 (by omega),cond_false,gd_pos ⟨by omega,by omega⟩]
  cases l with
  | nil=>simp at h1
  | cons a l =>
    refine whileO_from (fun i=>((l.take i).foldl imin a,((i + 1:Nat):Int),())) l.length _ rfl (fun i hi=>?_) ?_
    · have hg : (a :: l).getD (i + 1) 0 = l[i]:=by rw [List.getD_cons_succ,List.getD_eq_getElem?_getD,List.getElem?_eq_getElem hi];rfl
      have w : wr .i64 (((i + 1:Nat):Int) + 1) = ((i + 1 + 1:Nat):Int):=(wr_id (by simp at h2;omega)).trans (by omega)
      simp only [ilt_iff.2 (show (((i + 1:Nat)):Int) < ((a :: l).length:Int) by simp;omega),cond_true,Int.toNat_natCast,hg,w]
      rw [gd_pos ⟨by omega,by simp;omega⟩,List.take_succ_eq_append_getElem hi,List.foldl_append];rfl
    · simp only [ilt_false.2 (show ((a :: l).length:Int) ≤ ((l.length + 1:Nat):Int) by simp),cond_false,List.take_length];rfl
set_option maxRecDepth 100000 in
theorem ok75 : con75.Ok Try.prog:=Con.of_goal mixed okN con75 goal75
theorem goal76 : con76.goal Try.prog (spOf []) g76_sh [] lm30:=by
  have e : (∀ (l:List Int),(0 < l.length ∧ l.length ≤ 1000) → g76 l = some (maxL l,())) = con76.goal Try.prog (spOf []) g76_sh [] lm30:=by kernel_rfl
  rw [← e]
  rintro l ⟨h1,h2⟩
  unfold g76
  rw [ilt_false.2 (by omega),cond_false,gd_pos ⟨by omega,by omega⟩]
  cases l with
  | nil=>simp at h1
  | cons a l =>
    refine whileO_from (fun i=>((l.take i).foldl imax a,((i + 1:Nat):Int),())) l.length _ rfl (fun i hi=>?_) ?_
    · have hg : (a :: l).getD (i + 1) 0 = l[i]:=by rw [List.getD_cons_succ,List.getD_eq_getElem?_getD,List.getElem?_eq_getElem hi];rfl
      have w : wr .i64 (((i + 1:Nat):Int) + 1) = ((i + 1 + 1:Nat):Int):=(wr_id (by simp at h2;omega)).trans (by omega)
      simp only [ilt_iff.2 (show (((i + 1:Nat)):Int) < ((a :: l).length:Int) by simp;omega),cond_true,Int.toNat_natCast,hg,w]
      rw [gd_pos ⟨by omega,by simp;omega⟩,List.take_succ_eq_append_getElem hi,List.foldl_append];rfl
    · simp only [ilt_false.2 (show ((a :: l).length:Int) ≤ ((l.length + 1:Nat):Int) by simp),cond_false,List.take_length];rfl
set_option maxRecDepth 100000 in
theorem ok76 : con76.Ok Try.prog:=Con.of_goal mixed okN con76 goal76
end Go.Schur
namespace Go.Schur
open Go Go.Ab Go.Proofs
theorem e77d (n:Nat) : (∀ (inner outer:List Int) (b:Bool) (left:List Int) (most:Int) (x:List Int) (s:Int) (rows:List (List Int)),preD (n + 1) inner outer b left most x rows → g77d n inner outer b left most x s rows = some (true,inner,outer,b,left,most,x,filD inner outer most (n + 1) left rows x s,rows,())) = (con77d (n + 1)).goal Try.prog (spS [con78,con77d n] [con110,con111]) g77d_sh ms77 lm30:=by kernel_rfl
theorem goal77d (n:Nat) : (con77d (n + 1)).goal Try.prog (spS [con78,con77d n] [con110,con111]) g77d_sh ms77 lm30:=by
  rw [← e77d]
  rintro inner outer b left most x s0 rows ⟨rfl,hp,hmx⟩
  have hcap:=hp.capR
  have hmo:=hp.mo
  have hil:=hp.il
  have hol:=hp.ol
  have hw2 : wr .i64 ((rows.length:Int) - 1 + 1) = (rows.length:Int):=(wr_id (by omega)).trans (by omega)
  have hw1 : wr .i64 ((rows.length:Int) - 1) = (rows.length:Int) - 1:=wr_id (by omega)
  unfold g77d
  simp only [hw1,hw2]
  have hn : (!ilt ((rows.length:Int) - 1) 0) = true → 0 ≤ (rows.length:Int) - 1:=fun h=>by
    by_cases h0 : (rows.length:Int) - 1 < 0
    · rw [ilt_iff.2 h0] at h;cases h
    · omega
  have hc1 : g77d_c1 inner outer rows = full inner outer rows:=by
    rcases List.eq_nil_or_concat rows with rfl | ⟨R,r,rfl⟩
    · have h0 : ilt (wr .i64 (((([]:List (List Int)).length:Nat):Int) - 1)) 0 = true:=by decide
      unfold g77d_c1;rw [h0];rfl
    · rw [List.concat_eq_append] at *
      rw [full_app]
      unfold g77d_c1 g77d_c0
      simp only [hw1]
      have h1 : (((R ++ [r]).length:Nat):Int) - 1 = R.length:=by simp
      rw [h1]
      have h2 : ilt (R.length:Int) 0 = false:=ilt_false.2 (by omega)
      have h3:=hp.i0 R.length
      have h4:=hp.o8 R.length
      have h5:=hp.ins R.length
      have h6:=hcap.2 r (by simp)
      rw [h2,cond_false,Nat.zero_add,Int.toNat_natCast,getD_app,wr_id (by omega)]
      rfl
  simp only [imp_self,gd_true]
  rw [gd_pos (by intro h;exact ⟨h,h,hn h,by omega⟩),gd_pos (by intro h;exact ⟨h,h,hn h,by omega⟩),gd_pos (by intro h;have:=hn h;exact ⟨h,by omega⟩),gd_pos (by intro h;exact ⟨h,h⟩),gd_pos (by intro h;exact ⟨h,h,hn h,by omega⟩),gd_pos (by intro h;exact ⟨h,h⟩),gd_pos (by intro h;simp [h]),hc1]
  cases hf : full inner outer rows with
  | true =>
    rw [cond_true]
    by_cases hl : rows.length = outer.length
    · have h1 : ieq (rows.length:Int) (outer.length:Int) = true:=by rw [hl];exact ieq_iff.2 rfl
      rw [h1,cond_true]
      simp only [filD,fil,hf,if_true,if_pos hl]
      rw [gd_pos ⟨by omega,by omega,fun r hr=>⟨Nat.le_trans (hcap.2 r hr) (by omega),fun k hk=>by have:=hp.ent r hr k hk;omega⟩⟩,gd_pos (fun h=>by cases h)]
      rfl
    · have h1 : ieq (rows.length:Int) (outer.length:Int) = false:=ieq_false.2 (by omega)
      have h2 : preD n inner outer true left most x (rows ++ [[]]):=⟨rfl,hp.open_ hf hl,hmx⟩
      simp only [h1,cond_false,List.take_length,filD,fil,hf,if_true,if_neg hl]
      rw [gd_pos (Nat.le_refl _),gd_pos (by omega),gd_pos (by simp),gd_pos h2]
      repeat first
        | rw [gd_pos (fun h=>by cases h)]
        | rw [gd_pos (by simp only [List.length_append,List.length_cons,List.length_nil];omega)]
      simp
      simp only [gd_true]
      rw [gd_pos (by omega)]
  | false =>
    rw [cond_false]
    rcases List.eq_nil_or_concat rows with rfl | ⟨R,r,rfl⟩
    · simp [full] at hf
    simp only [List.concat_eq_append] at *
    have hlen : (((R ++ [r]).length:Nat):Int) - 1 = R.length:=by simp
    simp only [hlen] at hw1 hn ⊢
    have hR : (R ++ [r]).length = R.length + 1:=by simp
    have hr8:=hcap.2 r (by simp)
    have hlt:=hp.lt8 hf
    have hi0:=hp.i0 R.length
    have ho8:=hp.o8 R.length
    have hR8 : R.length + 1 ≤ 8:=by rw [← hR];exact hcap.1
    have hc0 : g77d_c0 inner (R ++ [r]) = rowF inner R.length + r.length:=by
      unfold g77d_c0
      rw [hlen,hw1,Nat.zero_add,Int.toNat_natCast,getD_app,wr_id (by omega)]
    have hw3 : wr .i64 ((R.length:Int) - 1) = (R.length:Int) - 1:=wr_id (by omega)
    have hw4 : wr .i64 (rowF inner R.length + r.length - 1) = rowF inner R.length + r.length - 1:=wr_id (by omega)
    have ha1 : atP inner (R ++ [r]) ((R.length:Int) - 1) (rowF inner R.length + r.length):=by
      refine ⟨by omega,by rw [hR];omega,by omega,by omega,fun h=>?_⟩
      have h1:=hp.fl (R.length - 1) (by rw [hR];omega)
      have h2 : (((R.length - 1:Nat)):Int) = (R.length:Int) - 1:=by omega
      rw [h2] at h1
      have h3:=hp.i0 (R.length - 1)
      have h4:=hp.o8 (R.length - 1)
      have h5:=hp.od (R.length - 1)
      have h6 : ((R.length - 1 + 1:Nat):Int) = R.length:=by omega
      rw [h2] at h3 h4 h5
      rw [h6] at h5
      rw [show ((R.length:Int) - 1).toNat = R.length - 1 by omega]
      omega
    have ha2 : r ≠ [] → atP inner (R ++ [r]) R.length (rowF inner R.length + r.length - 1):=by
      intro hne
      have:=List.length_pos_iff.2 hne
      refine ⟨by omega,by rw [hR];omega,by omega,by omega,fun h=>?_⟩
      rw [Int.toNat_natCast,getD_app]
      omega
    have hv2 : r ≠ [] → atF inner (R ++ [r]) R.length (rowF inner R.length + r.length - 1) = r.getLastD 0:=by
      intro hne
      have:=List.length_pos_iff.2 hne
      unfold atF
      rw [if_neg (by omega),Int.toNat_natCast,getD_app,show (rowF inner R.length + r.length - 1 - rowF inner R.length).toNat = r.length - 1 by omega]
      rw [List.getLastD_eq_getLast?,List.getLast?_eq_getElem?,List.getD_eq_getElem?_getD]
    have hb1:=atF_bd (inner:=inner) (i:=(R.length:Int) - 1) (j:=rowF inner R.length + r.length) hmo.1 hp.ent
    have hc2 : g77d_c2 inner (R ++ [r]) = atF inner (R ++ [r]) ((R.length:Int) - 1) (rowF inner R.length + r.length):=by
      unfold g77d_c2
      rw [List.drop_zero,List.take_length,hlen,hc0,wr_id (n:=(R.length:Int)) (by omega),hw3]
    have hc3 : g77d_c3 (R ++ [r]) = decide (r ≠ []):=by
      unfold g77d_c3
      rw [hlen,wr_id (n:=(R.length:Int)) (by omega),Nat.zero_add,Int.toNat_natCast,getD_app]
      cases r <;> simp [ilt]
    have hc4 : r ≠ [] → g77d_c4 inner (R ++ [r]) = r.getLastD 0:=by
      intro hne
      unfold g77d_c4
      rw [List.drop_zero,List.take_length,hlen,hc0,wr_id (n:=(R.length:Int)) (by omega),hw4,hv2 hne]
    have hw5 : wr .i64 (atF inner (R ++ [r]) ((R.length:Int) - 1) (rowF inner R.length + r.length) + 1) = atF inner (R ++ [r]) ((R.length:Int) - 1) (rowF inner R.length + r.length) + 1:=wr_id (by omega)
    have hf':=hf
    simp only [filD,fil,hf]
    have hL : leastF inner (R ++ [r]) = if r = [] then max 1 (atF inner (R ++ [r]) ((R.length:Int) - 1) (rowF inner R.length + r.length) + 1) else max (max 1 (atF inner (R ++ [r]) ((R.length:Int) - 1) (rowF inner R.length + r.length) + 1)) (r.getLastD 0):=by
      unfold leastF
      rw [last_app,show (((R ++ [r]).length:Nat):Int) - 2 = (R.length:Int) - 1 by omega,hlen]
    have hL1 : 1 ≤ leastF inner (R ++ [r]):=by rw [hL];split <;> omega
    simp only [Bool.false_eq_true,if_false]
    simp only [hc0,hc2,hw3,hw4,hw5,hc3,List.drop_zero,List.take_length,Nat.zero_add,Int.toNat_natCast,gd_pos ha1]
    rw [gd_pos ⟨by omega,by omega⟩,gd_pos (by omega)]
    rcases Decidable.em (r = []) with hr | hr
    · rw [decide_eq_false (by simp [hr]),cond_false]
      rw [if_pos hr] at hL
      rw [imax_eq,← hL]
      repeat first
        | rw [gd_pos (fun h=>by cases h)]
        | rw [gd_pos (by omega)]
        | rw [gd_pos ⟨by omega,by omega⟩]
      refine whileO_cat (fun s b=>sumW x s b) (fun _ _=>True) (fun s=>rfl) (fun s a b=>(List.foldl_append ..).symm) (fun s a b h=>⟨trivial,trivial⟩)
        (fun z s=>(z,inner,outer,true,left,most,x,s,R ++ [r],())) (fun s=>(true,inner,outer,true,left,most,x,s,R ++ [r],())) (fun z=>useX left true z fun l=>fil inner outer most true n l (addX (R ++ [r]) z)) (leastF inner (R ++ [r])) most ?_ ?_ _ _ s0 (Int.le_refl _) rfl trivial
      · intro z s hx1 hx2 hs
        have hq : ile z most = true:=ile_iff.2 hx2
        have hx' : wr .i64 (z + 1) = z + 1:=wr_id (by omega)
        have hpr : preD n inner outer true left most x (R ++ [r ++ [z]]):=⟨rfl,hp.box hf ⟨by omega,hx2⟩ (fun h=>by cases h),hmx⟩
        have h5 : wr .i64 (((r.length + 1:Nat):Int) - 1) = r.length:=(wr_id (by omega)).trans (by omega)
        have h4 : List.take r.length (r ++ [z]) = r:=by simp
        have h3 : (R ++ [r ++ [z]]).length = R.length + 1:=by simp
        have h2 : (r ++ [z]).length = r.length + 1:=by simp
        have q2 : (0 ≤ (R.length:Int) ∧ (R.length:Int) < ((R.length + 1:Nat):Int)) = True:=eq_true ⟨by omega,by omega⟩
        have q4 : ((r.length + 1) * 8 ≤ 1099511627776) = True:=eq_true (by omega)
        have q5 : (0 ≤ (r.length:Int) ∧ (r.length:Int) ≤ ((r.length + 1:Nat):Int)) = True:=eq_true ⟨by omega,by omega⟩
        have h1 : wr .i64 (((R.length + 1:Nat):Int) - 1) = R.length:=(wr_id (by omega)).trans (by omega)
        simp only [filD,hq,cond_true,hx',Int.toNat_natCast,getD_app,set_app,hR,useX,if_true,addX_app,g77d_c6,hlen,hw1,h1,List.take_length,h5,h4,h3,h2,hR,q2,q4,q5,Nat.zero_add,List.length_set,Nat.lt_succ_self,Nat.le_refl,gd_true,Nat.le_succ,gd_pos hpr,Bool.true_eq_false,false_implies]
      · intro z s hx
        simp only [ile_false.2 hx,cond_false,gd_true,Nat.le_refl,Bool.true_eq_false,false_implies]
    · rw [decide_eq_true hr,cond_true,gd_pos (ha2 hr)]
      rw [if_neg hr] at hL
      rw [hc4 hr,imax_eq,imax_eq,← hL]
      repeat first
        | rw [gd_pos (fun h=>by cases h)]
        | rw [gd_pos (by omega)]
        | rw [gd_pos ⟨by omega,by omega⟩]
      refine whileO_cat (fun s b=>sumW x s b) (fun _ _=>True) (fun s=>rfl) (fun s a b=>(List.foldl_append ..).symm) (fun s a b h=>⟨trivial,trivial⟩)
        (fun z s=>(z,inner,outer,true,left,most,x,s,R ++ [r],())) (fun s=>(true,inner,outer,true,left,most,x,s,R ++ [r],())) (fun z=>useX left true z fun l=>fil inner outer most true n l (addX (R ++ [r]) z)) (leastF inner (R ++ [r])) most ?_ ?_ _ _ s0 (Int.le_refl _) rfl trivial
      · intro z s hx1 hx2 hs
        have hq : ile z most = true:=ile_iff.2 hx2
        have hx' : wr .i64 (z + 1) = z + 1:=wr_id (by omega)
        have hpr : preD n inner outer true left most x (R ++ [r ++ [z]]):=⟨rfl,hp.box hf ⟨by omega,hx2⟩ (fun h=>by cases h),hmx⟩
        have h5 : wr .i64 (((r.length + 1:Nat):Int) - 1) = r.length:=(wr_id (by omega)).trans (by omega)
        have h4 : List.take r.length (r ++ [z]) = r:=by simp
        have h3 : (R ++ [r ++ [z]]).length = R.length + 1:=by simp
        have h2 : (r ++ [z]).length = r.length + 1:=by simp
        have q2 : (0 ≤ (R.length:Int) ∧ (R.length:Int) < ((R.length + 1:Nat):Int)) = True:=eq_true ⟨by omega,by omega⟩
        have q4 : ((r.length + 1) * 8 ≤ 1099511627776) = True:=eq_true (by omega)
        have q5 : (0 ≤ (r.length:Int) ∧ (r.length:Int) ≤ ((r.length + 1:Nat):Int)) = True:=eq_true ⟨by omega,by omega⟩
        have h1 : wr .i64 (((R.length + 1:Nat):Int) - 1) = R.length:=(wr_id (by omega)).trans (by omega)
        simp only [filD,hq,cond_true,hx',Int.toNat_natCast,getD_app,set_app,hR,useX,if_true,addX_app,g77d_c5,hlen,hw1,h1,List.take_length,h5,h4,h3,h2,hR,q2,q4,q5,Nat.zero_add,List.length_set,Nat.lt_succ_self,Nat.le_refl,gd_true,Nat.le_succ,gd_pos hpr,Bool.true_eq_false,false_implies]
      · intro z s hx
        simp only [ile_false.2 hx,cond_false,gd_true,Nat.le_refl,Bool.true_eq_false,false_implies]
set_option maxRecDepth 100000 in
theorem ok77d_0 : (con77d 0).Ok Try.prog:=scon_false _ (by kernel_rfl) (by
  have e : (∀ (inner outer:List Int) (b:Bool) (left:List Int) (most:Int) (x:List Int) (s:Int) (rows:List (List Int)) (p : List Prop),some [preD 0 inner outer b left most x rows] = some p → ¬ Ab.allP p) = (allD ((con77d 0).ins.flatMap TV.ts ++ tsB (con77d 0).ibl) fun env=>∀ p,(con77d 0).pre env = some p → ¬ Ab.allP p):=by kernel_rfl
  rw [← e]
  intro inner outer b left most x s rows p hp hq
  cases hp
  exact absurd (Ab.allP_one.1 hq).2.1.mu (by omega))
set_option maxRecDepth 100000 in
theorem ok77d : ∀ n,(con77d n).Ok Try.prog
  | 0=>ok77d_0
  | n + 1=>SCon.of_goal mixed (okC ok110 (okC ok111 okN)) (okS ok78 (okS (ok77d n) okS0)) (con77d (n + 1)) (goal77d n)
end Go.Schur
namespace Go.Schur
open Go Go.Ab Go.Proofs
def wt (x:List Int) (T:List (List Int)) : Int:=T.flatten.foldl (fun p k=>p * x.getD (k - 1).toNat 0) 1
theorem wr_wr {n : Int} : wr .i64 (wr .i64 n) = wr .i64 n:=by
  show IntKind.i64.wrap (IntKind.i64.wrap n) = IntKind.i64.wrap n
  rw [IntKind.wrap_i64,IntKind.wrap_i64];omega
theorem wr_mod {a b : Int} (h : ∃ k,a = b + 18446744073709551616 * k) : wr .i64 a = wr .i64 b:=by
  obtain ⟨k,rfl⟩:=h
  show IntKind.i64.wrap _ = IntKind.i64.wrap _
  rw [IntKind.wrap_i64,IntKind.wrap_i64];omega
theorem wr_dif {n : Int} : ∃ k,wr .i64 n = n + 18446744073709551616 * k:=by
  refine ⟨(wr .i64 n - n) / 18446744073709551616,?_⟩
  have : wr .i64 n = IntKind.i64.wrap n:=rfl
  rw [this,IntKind.wrap_i64];omega
theorem wr_mul_l {a b : Int} : wr .i64 (wr .i64 a * b) = wr .i64 (a * b):=by
  obtain ⟨k,hk⟩:=wr_dif (n:=a)
  refine wr_mod ⟨k * b,?_⟩
  rw [hk,Int.add_mul,Int.mul_assoc]
theorem wr_add_l {a b : Int} : wr .i64 (wr .i64 a + b) = wr .i64 (a + b):=by
  obtain ⟨k,hk⟩:=wr_dif (n:=a)
  exact wr_mod ⟨k,by rw [hk];omega⟩
theorem wr_add_r {a b : Int} : wr .i64 (a + wr .i64 b) = wr .i64 (a + b):=by rw [Int.add_comm,wr_add_l,Int.add_comm]
theorem wr_mul_r {a b : Int} : wr .i64 (a * wr .i64 b) = wr .i64 (a * b):=by rw [Int.mul_comm,wr_mul_l,Int.mul_comm]
theorem rowW_wr {x : List Int} : ∀ {r : List Int} {p : Int},wr .i64 (rowW x r p) = wr .i64 (r.foldl (fun p k=>p * x.getD (k - 1).toNat 0) p)
  | [],p=>rfl
  | k :: r,p=>by
    show wr .i64 (rowW x r (wr .i64 (p * _))) = wr .i64 (r.foldl _ (p * _))
    rw [rowW_wr]
    clear rowW_wr
    generalize p * x.getD (k - 1).toNat 0 = q
    have : ∀ (r:List Int) (a b:Int),wr .i64 a = wr .i64 b → wr .i64 (r.foldl (fun p k=>p * x.getD (k - 1).toNat 0) a) = wr .i64 (r.foldl (fun p k=>p * x.getD (k - 1).toNat 0) b):=by
      intro r
      induction r with
      | nil=>intro a b h;exact h
      | cons k r ih=>intro a b h;exact ih _ _ (by rw [← wr_mul_l,h,wr_mul_l])
    exact this r _ _ wr_wr
theorem fold_congr {x : List Int} : ∀ (r:List Int) (a b:Int),wr .i64 a = wr .i64 b → wr .i64 (r.foldl (fun p k=>p * x.getD (k - 1).toNat 0) a) = wr .i64 (r.foldl (fun p k=>p * x.getD (k - 1).toNat 0) b):=by
  intro r
  induction r with
  | nil=>intro a b h;exact h
  | cons k r ih=>intro a b h;exact ih _ _ (by rw [← wr_mul_l,h,wr_mul_l])
theorem valW_wr {x : List Int} {T : List (List Int)} : wr .i64 (valW x T) = wr .i64 (wt x T):=by
  unfold valW wt
  have : ∀ (T:List (List Int)) (a b:Int),wr .i64 a = wr .i64 b → wr .i64 (T.foldl (fun p r=>rowW x r p) a) = wr .i64 (T.flatten.foldl (fun p k=>p * x.getD (k - 1).toNat 0) b):=by
    intro T
    induction T with
    | nil=>intro a b h;exact h
    | cons r T ih =>
      intro a b h
      rw [List.flatten_cons,List.foldl_append]
      exact ih _ _ (by rw [rowW_wr];exact fold_congr r a b h)
  exact this T 1 1 rfl
theorem sumW_wr {x : List Int} : ∀ {L : List (List (List Int))} {s : Int},wr .i64 (sumW x s L) = wr .i64 (s + sL L (wt x))
  | [],s=>by show wr .i64 s = _;rw [sL_nil,Int.add_zero]
  | T :: L,s=>by
    show wr .i64 (sumW x (wr .i64 (s + valW x T)) L) = _
    rw [sumW_wr,sL_cons,wr_add_l,← Int.add_assoc,← wr_add_l,← wr_add_l (a:=s + wt x T),← wr_add_r (a:=s),valW_wr,wr_add_r]
def pw (y:Int) (n:Nat) : Int:=y ^ n
def sR : List Int → List Nat → Int
  | [],l=>bif isZ l then 1 else 0
  | y :: ys,l=>sL (subs l) fun ν=>pw y (l.sum - ν.sum) * sR ys ν
theorem fold_one {x : List Int} : ∀ {r : List Int} {p : Int},r.foldl (fun p k=>p * x.getD (k - 1).toNat 0) p = p * r.foldl (fun p k=>p * x.getD (k - 1).toNat 0) 1
  | [],p=>by simp
  | k :: r,p=>by rw [List.foldl_cons,List.foldl_cons,fold_one,fold_one (p:=1 * _),Int.one_mul,Int.mul_assoc]
theorem wt_cons {x : List Int} {r : List Int} {T : List (List Int)} : wt x (r :: T) = wt x [r] * wt x T:=by
  unfold wt
  rw [List.flatten_cons,List.foldl_append,fold_one];simp
theorem wt_rep {x : List Int} {c : Int} : ∀ {n : Nat},wt x [List.replicate n c] = pw (x.getD (c - 1).toNat 0) n
  | 0=>by simp [wt,pw]
  | n + 1=>by
    have:=wt_rep (x:=x) (c:=c) (n:=n)
    unfold wt pw at this ⊢
    simp only [List.flatten_cons,List.flatten_nil,List.append_nil] at this ⊢
    rw [List.replicate_succ,List.foldl_cons,fold_one,this,Int.one_mul,Int.pow_succ,Int.mul_comm]
theorem wt_app {x : List Int} {r s : List Int} : wt x [r ++ s] = wt x [r] * wt x [s]:=by
  unfold wt
  simp only [List.flatten_cons,List.flatten_nil,List.append_nil]
  rw [List.foldl_append,fold_one]
theorem pw_add {y : Int} {m n : Nat} : pw y (m + n) = pw y m * pw y n:=by unfold pw;exact Int.pow_add ..
theorem wt_fill {x : List Int} {c : Int} : ∀ {l : List Nat} {T : List (List Int)},T.map List.length ∈ subs l → wt x (fillT c l T) = wt x T * pw (x.getD (c - 1).toNat 0) (l.sum - (T.map List.length).sum)
  | [],T,h=>by
    simp [subs] at h
    subst h
    simp [fillT,wt,pw]
  | a :: l,[],h=>by have:=subs_len h;simp at this
  | a :: l,r :: T,h=>by
    obtain ⟨v,ν',e,⟨g1,g2⟩,g3⟩:=mem_subs.1 h
    simp only [List.map_cons,List.cons.injEq] at e
    obtain ⟨rfl,rfl⟩:=e
    have hle:=subs_sum g3
    rw [fillT,wt_cons,wt_fill g3,wt_cons (r:=r),fillR,wt_app,wt_rep,List.map_cons,List.sum_cons,List.sum_cons,
      show a + l.sum - (r.length + (T.map List.length).sum) = (a - r.length) + (l.sum - (T.map List.length).sum) by omega,pw_add]
    simp only [Int.mul_assoc,Int.mul_comm,Int.mul_left_comm]
theorem wt_ext {M : Nat} {xs : List Int} {y : Int} (hl : xs.length = M) : ∀ {T : List (List Int)},TabS M T → wt (xs ++ [y]) T = wt xs T:=by
  intro T hT
  have hb:=tabS_bd hT
  unfold wt
  have : ∀ (r:List Int),(∀ k ∈ r,1 ≤ k ∧ k ≤ (M:Int)) → ∀ p : Int,r.foldl (fun p k=>p * (xs ++ [y]).getD (k - 1).toNat 0) p = r.foldl (fun p k=>p * xs.getD (k - 1).toNat 0) p:=by
    intro r
    induction r with
    | nil=>intro _ p;rfl
    | cons k r ih =>
      intro h p
      have hk:=h k (by simp)
      rw [List.foldl_cons,List.foldl_cons,ih (fun j hj=>h j (by simp [hj])),getD_left (by omega)]
  exact this _ (fun k hk=>by obtain ⟨r,hr,hx⟩:=List.mem_flatten.1 hk;exact hb r hr k hx) 1
theorem sR_eq : ∀ {ys : List Int} {l : List Nat},sL (tabsR ys.length l) (wt ys.reverse) = sR ys l
  | [],l=>by
    rw [List.length_nil,tabsR,sR,isZ]
    cases l.all (Nat.beq 0)
    · rfl
    · have : (l.map fun _ => ([]:List Int)).flatten = [] := by
        clear sR_eq
        induction l with
        | nil=>rfl
        | cons a l ih=>simp
      simp [sL,wt,this]
  | y :: ys,l=>by
    rw [List.length_cons,tabsR,sR,sL_flat]
    refine sL_congr fun ν hν=>?_
    rw [sL_map,← sR_eq,← sL_mul]
    refine sL_congr fun T hT=>?_
    obtain ⟨rfl,h2⟩:=mem_tabsR.1 hT
    rw [List.reverse_cons,wt_fill hν,wt_ext (by simp) h2,show (((ys.length:Int) + 1 - 1)).toNat = ys.length by omega]
    have : (ys.reverse ++ [y]).getD ys.length 0 = y:=by
      have:=getD_mid ys.reverse ([]:List Int) y 0
      rwa [List.length_reverse] at this
    rw [this,Int.mul_comm]
def schN (p : List Nat) (x:List Int) : Int:=sR x.reverse p
theorem filD_eq {p : List Nat} {x : List Int} (hp : Small8 p) (hx : x.length ≤ 8) : wr .i64 (filD [] (toI p) x.length 81 [] [] x 0) = wr .i64 (schN p x):=by
  unfold filD
  rw [sumW_wr,Int.zero_add,sL_perm (fil_all hp hx)]
  have:=sR_eq (ys:=x.reverse) (l:=p)
  rw [List.length_reverse,List.reverse_reverse] at this
  rw [this];rfl
end Go.Schur
namespace Go.Schur
open Go Go.Ab Go.Proofs
def schW (l x:List Int) : Int:=wr .i64 (schN (l.map Int.toNat) x)
def okX (x:List Int) : Prop:=1 ≤ x.length ∧ x.length ≤ 4 ∧ ∀ a ∈ x,-3 ≤ a ∧ a ≤ 3
instance {x : List Int} : Decidable (okX x):=by unfold okX;infer_instance
def schF2 (l x:List Int) : Int × Int × Unit:=if shapeB l = true ∧ okX x then (schW l x,0,()) else (0,2,())
noncomputable def con28b : Con:=mkC 28 [.d LI,.d LI] [I64,I64] (fun (l x:List Int)=>[l.length ≤ 1000 ∧ x.length ≤ 1000]) (fun (l x:List Int)=>schF2 l x)
end Go.Schur
namespace Go.Schur
open Go Go.Ab Go.Proofs
theorem sumW_nf {x : List Int} : ∀ {L : List (List (List Int))} {s : Int},wr .i64 s = s → wr .i64 (sumW x s L) = sumW x s L
  | [],s,h=>h
  | T :: L,s,h=>sumW_nf (L:=L) (s:=wr .i64 (s + valW x T)) wr_wr
theorem filD_W {l x : List Int} (hl : shapeB l = true) (hx : x.length ≤ 8) : filD [] l x.length 81 [] [] x 0 = schW l x:=by
  obtain ⟨p,_,rfl,hp,_⟩:=shape_allP hl
  unfold schW
  rw [toNat_toI,← filD_eq hp hx]
  unfold filD
  rw [sumW_nf rfl]
theorem min_ge {a c : Int} : ∀ {l : List Int},c ≤ l.foldl imin a ↔ c ≤ a ∧ ∀ y ∈ l,c ≤ y:=by
  intro l
  induction l generalizing a with
  | nil=>simp
  | cons b l ih =>
    rw [List.foldl_cons,ih]
    have : c ≤ imin a b ↔ c ≤ a ∧ c ≤ b:=by unfold imin;split <;> omega
    rw [this]
    simp [and_assoc]
theorem max_le {a c : Int} : ∀ {l : List Int},l.foldl imax a ≤ c ↔ a ≤ c ∧ ∀ y ∈ l,y ≤ c:=by
  intro l
  induction l generalizing a with
  | nil=>simp
  | cons b l ih =>
    rw [List.foldl_cons,ih]
    have : imax a b ≤ c ↔ a ≤ c ∧ b ≤ c:=by unfold imax;split <;> omega
    rw [this]
    simp [and_assoc]
theorem okX_iff {x : List Int} : okX x ↔ 1 ≤ x.length ∧ x.length ≤ 4 ∧ -3 ≤ minL x ∧ maxL x ≤ 3:=by
  unfold okX
  cases x with
  | nil=>simp
  | cons a l =>
    unfold minL maxL
    rw [min_ge,max_le]
    simp only [List.mem_cons,forall_eq_or_imp]
    constructor
    · rintro ⟨h1,h2,h3,h4⟩
      exact ⟨h1,h2,⟨h3.1,fun y hy=>(h4 y hy).1⟩,⟨h3.2,fun y hy=>(h4 y hy).2⟩⟩
    · rintro ⟨h1,h2,⟨h3,h4⟩,⟨h5,h6⟩⟩
      exact ⟨h1,h2,⟨h3,h5⟩,fun y hy=>⟨h4 y hy,h6 y hy⟩⟩
theorem pre_tabs {l : List Int} (hl : shapeB l = true) {x : List Int} (hx : x.length ≤ 8) : preD 81 [] l true [] x.length x []:=by
  obtain ⟨p,_,rfl,hp,_⟩:=shape_allP hl
  exact ⟨rfl,pre0 hp hx (fun h=>by cases h),rfl⟩
theorem goal28b : con28b.goal Try.prog (spS [con77d 81] [con66,con75,con76]) g28_sh [4033] lm30:=by
  have e : (∀ (l x:List Int),(l.length ≤ 1000 ∧ x.length ≤ 1000) → g28 l x = some (schF2 l x)) = con28b.goal Try.prog (spS [con77d 81] [con66,con75,con76]) g28_sh [4033] lm30:=by kernel_rfl
  rw [← e]
  rintro l x ⟨h1,h2⟩
  unfold g28 schF2
  rw [gd_pos h1]
  cases hs : shapeB l with
  | false=>simp [gd_true]
  | true =>
    by_cases k1 : (x.length:Int) < 1
    · rw [if_neg (fun h=>by have:=h.2.1;omega),ilt_iff.2 k1];simp [gd_true]
    · rw [ilt_false.2 (show (1:Int) ≤ x.length by omega)]
      by_cases k2 : (4:Int) < x.length
      · rw [if_neg (fun h=>by have:=h.2.2.1;omega),ilt_iff.2 k2];simp [gd_true]
      · rw [ilt_false.2 (show (x.length:Int) ≤ 4 by omega)]
        have hpos : 0 < x.length ∧ x.length ≤ 1000:=⟨by omega,h2⟩
        by_cases k3 : minL x < -3
        · rw [if_neg (fun h=>by have:=(okX_iff.1 h.2).2.2.1;omega),ilt_iff.2 k3];simp [gd_true,hpos,h2]
        · rw [ilt_false.2 (show -3 ≤ minL x by omega)]
          by_cases k4 : 3 < maxL x
          · rw [if_neg (fun h=>by have:=(okX_iff.1 h.2).2.2.2;omega),ilt_iff.2 k4];simp [gd_true,hpos,h2]
          · rw [ilt_false.2 (show maxL x ≤ 3 by omega),if_pos ⟨rfl,okX_iff.2 ⟨by omega,by omega,by omega,by omega⟩⟩]
            have hpre:=pre_tabs hs (x:=x) (by omega)
            rw [filD_W hs (by omega)]
            simp only [Bool.not_true,Bool.not_false,cond_false,cond_true,imp_self,gd_true,true_implies,and_self,hpos,Bool.true_eq_false,Bool.false_eq_true,false_implies,gd_pos hpre,true_and]
set_option maxRecDepth 100000 in
theorem ok28 : con28b.Ok Try.prog:=Con.of_goalS mixed (okC ok66 (okC ok75 (okC ok76 okN))) (okS (ok77d 81) okS0) con28b goal28b
end Go.Schur
namespace Go.Schur
open Go Go.Ab Go.Proofs
theorem sL_single {A : Type} {g : A → Int} {p : A → Bool} : ∀ {l : List A} {a : A},l.Nodup → a ∈ l → (∀ b ∈ l,p b = true ↔ b = a) → sL l (fun b=>cond (p b) (g b) 0) = g a
  | [],a,_,h,_=>by cases h
  | b :: l,a,hn,h,hp=>by
    obtain ⟨n1,n2⟩:=List.nodup_cons.1 hn
    rw [sL_cons]
    by_cases hb : b = a
    · subst hb
      rw [(hp b (by simp)).2 rfl,cond_true]
      have : sL l (fun c=>cond (p c) (g c) 0) = sL l fun _=>(0:Int):=sL_congr fun c hc=>by
        have : p c = false:=by
          cases h : p c with
          | false=>rfl
          | true=>exact absurd ((hp c (by simp [hc])).1 h ▸ hc) n1
        rw [this];rfl
      rw [this,sL_zero,Int.add_zero]
    · have hf : p b = false := by
        cases h : p b with
        | false=>rfl
        | true=>exact absurd ((hp b (by simp)).1 h) hb
      rw [hf,cond_false,Int.zero_add]
      refine sL_single n2 ?_ fun c hc=>hp c (by simp [hc])
      rcases List.mem_cons.1 h with h | h
      · exact absurd h.symm hb
      · exact h
end Go.Schur
namespace Go.Schur
open Go Go.Ab Go.Proofs
theorem take12_num {x : List Int} : okX (x.take 12) ↔ okX x:=by
  by_cases h : x.length ≤ 12
  · rw [List.take_of_length_le h]
  · constructor
    · intro h1;have:=h1.2.1;simp at this;omega
    · intro h1;have:=h1.2.1;omega
theorem schF2_take {l x : List Int} : schF2 (l.take 12) (x.take 12) = schF2 l x:=by
  unfold schF2
  rw [shape_take]
  by_cases h : shapeB l = true ∧ okX x
  · rw [if_pos ⟨h.1,take12_num.2 h.2⟩,if_pos h,shape_take_id h.1,List.take_of_length_le (by have:=h.2.2.1;omega)]
  · rw [if_neg h,if_neg (fun h'=>h ⟨h'.1,take12_num.1 h'.2⟩)]
end Go.Schur
