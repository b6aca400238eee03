/- Rule and Product: contracts. -/
import Derived.Test.YtobghbapmlnmoaaXV
import Derived.Test.YtobghbapmlnmoaaXC
import Derived.Test.YtobghbapmlnmoaaXD
import Derived.Test.YtobghbapmlnmoaaXJ
import Derived.Test.YtobghbapmlnmoaaXE
set_option linter.unusedVariables false
set_option linter.unusedSimpArgs false
namespace Go.Schur
open Go Go.Ab Go.Proofs
def latN (rows:List (List Int)) : Int:=bif latI rows then 1 else 0
noncomputable def con109c : SCon:=mkS 109 [.slf 0 1,.ref 1 1 0 0,.ref 2 1 0 0] (P109 116) [.v .bool] (P109 116) (fun (rows:List (List Int)) (out:Int)=>[ent8 rows ∧ 0 ≤ out ∧ out ≤ 500000000]) (fun (rows:List (List Int)) (out:Int)=>(true,rows,out + latN rows,()))
noncomputable def g109c (x0:List (List Int)) (x1:Int) : Option (Bool × List (List Int) × Int × Unit):=gd ((0:Nat) + List.length x0 ≤ List.length x0) (gd (ent8 (List.take (List.length x0) (List.drop (0:Nat) x0))) (bif latI (List.take (List.length x0) (List.drop (0:Nat) x0)) then some ((true,x0,wr .i64 (x1 + (1:Int)),()) : Bool × List (List Int) × Int × Unit) else some ((true,x0,x1,()) : Bool × List (List Int) × Int × Unit)))
noncomputable def g109c_sh : List LSh:=([] : List LSh)
def filL (inner outer:List Int) (most:Int) (n:Nat) (left:List Int) (rows:List (List Int)) : Int:=((fil inner outer most false n left rows).filter latI).length
noncomputable def con77c (n:Nat) : SCon:=mkS 77 [.ref 0 1 0 0,F109 1] (P77b 116) [.v .bool] (Q77b 116) (fun (inner outer:List Int) (most:Int) (out:Int) (left:List Int) (rows:List (List Int))=>[preB n inner outer left most rows out]) (fun (inner outer:List Int) (most:Int) (out:Int) (left:List Int) (rows:List (List Int))=>(true,inner,outer,most,out + filL inner outer most n left rows,left,rows,()))
noncomputable def g77c_c0 (x0:List Int) (x5:List (List Int)) : Int:=wr .i64 (rowF x0 (wr .i64 ((↑(List.length x5):Int) - (1:Int))) + (↑(List.length (List.getD x5 ((0:Nat) + Int.toNat (wr .i64 ((↑(List.length x5):Int) - (1:Int)))) ([]:List Int))):Int))
noncomputable def g77c_c1 (x0 x1:List Int) (x5:List (List Int)) : Bool:=bif ilt (wr .i64 ((↑(List.length x5):Int) - (1:Int))) (0:Int) then true else ieq (g77c_c0 x0 x5) (rowF x1 (wr .i64 ((↑(List.length x5):Int) - (1:Int))))
noncomputable def g77c_c2 (x0:List Int) (x5:List (List Int)) : Int:=atF x0 (List.take (List.length x5) (List.drop (0:Nat) x5)) (wr .i64 (wr .i64 ((↑(List.length x5):Int) - (1:Int)) - (1:Int))) (g77c_c0 x0 x5)
noncomputable def g77c_c3 (x5:List (List Int)) : Bool:=ilt (0:Int) (↑(List.length (List.getD x5 ((0:Nat) + Int.toNat (wr .i64 ((↑(List.length x5):Int) - (1:Int)))) ([]:List Int))):Int)
noncomputable def g77c_c4 (x0:List Int) (x5:List (List Int)) : Int:=atF x0 (List.take (List.length x5) (List.drop (0:Nat) x5)) (wr .i64 ((↑(List.length x5):Int) - (1:Int))) (wr .i64 (g77c_c0 x0 x5 - (1:Int)))
noncomputable def g77c_c5 (d7 : Int × List Int × List Int × Int × Int × List Int × List (List Int) × Unit) : Bool:=ieq (List.getD d7.2.2.2.2.2.1 ((0:Nat) + Int.toNat (wr .i64 (d7.1 - (1:Int)))) (0:Int)) (0:Int)
noncomputable def g77c_c6 (d7 : Int × List Int × List Int × Int × Int × List Int × List (List Int) × Unit) : Int:=wr .i64 (List.getD d7.2.2.2.2.2.1 ((0:Nat) + Int.toNat (wr .i64 (d7.1 - (1:Int)))) (0:Int) - (1:Int))
noncomputable def g77c_c7 (x5:List (List Int)) (d7 : Int × List Int × List Int × Int × Int × List Int × List (List Int) × Unit) : Int:=(↑(List.length (List.getD (List.set d7.2.2.2.2.2.2.1 ((0:Nat) + Int.toNat (wr .i64 ((↑(List.length x5):Int) - (1:Int)))) (List.take (List.length (List.getD d7.2.2.2.2.2.2.1 ((0:Nat) + Int.toNat (wr .i64 ((↑(List.length x5):Int) - (1:Int)))) ([]:List Int))) (List.getD d7.2.2.2.2.2.2.1 ((0:Nat) + Int.toNat (wr .i64 ((↑(List.length x5):Int) - (1:Int)))) ([]:List Int)) ++ d7.1 :: ([]:List Int))) ((0:Nat) + Int.toNat (wr .i64 ((↑(List.length x5):Int) - (1:Int)))) ([]:List Int))):Int)
noncomputable def g77c_c8 (d7 : Int × List Int × List Int × Int × Int × List Int × List (List Int) × Unit) : Int:=List.getD (List.set d7.2.2.2.2.2.1 ((0:Nat) + Int.toNat (wr .i64 (d7.1 - (1:Int)))) (g77c_c6 d7)) ((0:Nat) + Int.toNat (wr .i64 (d7.1 - (1:Int)))) (0:Int)
noncomputable def g77c_c9 (d7 : Int × List Int × List Int × Int × Int × List Int × List (List Int) × Unit) : Bool:=ieq (List.getD d7.2.2.2.2.2.1 ((0:Nat) + Int.toNat (wr .i64 (d7.1 - (1:Int)))) (0:Int)) (0:Int)
noncomputable def g77c_c10 (d7 : Int × List Int × List Int × Int × Int × List Int × List (List Int) × Unit) : Int:=wr .i64 (List.getD d7.2.2.2.2.2.1 ((0:Nat) + Int.toNat (wr .i64 (d7.1 - (1:Int)))) (0:Int) - (1:Int))
noncomputable def g77c_c11 (x5:List (List Int)) (d7 : Int × List Int × List Int × Int × Int × List Int × List (List Int) × Unit) : Int:=(↑(List.length (List.getD (List.set d7.2.2.2.2.2.2.1 ((0:Nat) + Int.toNat (wr .i64 ((↑(List.length x5):Int) - (1:Int)))) (List.take (List.length (List.getD d7.2.2.2.2.2.2.1 ((0:Nat) + Int.toNat (wr .i64 ((↑(List.length x5):Int) - (1:Int)))) ([]:List Int))) (List.getD d7.2.2.2.2.2.2.1 ((0:Nat) + Int.toNat (wr .i64 ((↑(List.length x5):Int) - (1:Int)))) ([]:List Int)) ++ d7.1 :: ([]:List Int))) ((0:Nat) + Int.toNat (wr .i64 ((↑(List.length x5):Int) - (1:Int)))) ([]:List Int))):Int)
noncomputable def g77c_c12 (d7 : Int × List Int × List Int × Int × Int × List Int × List (List Int) × Unit) : Int:=List.getD (List.set d7.2.2.2.2.2.1 ((0:Nat) + Int.toNat (wr .i64 (d7.1 - (1:Int)))) (g77c_c10 d7)) ((0:Nat) + Int.toNat (wr .i64 (d7.1 - (1:Int)))) (0:Int)
noncomputable def g77c (n:Nat) (x0 x1:List Int) (x2 x3:Int) (x4:List Int) (x5:List (List Int)) : Option (Bool × List Int × List Int × Int × Int × List Int × List (List Int) × Unit):=gd ((!ilt (wr .i64 ((↑(List.length x5):Int) - (1:Int))) (0:Int)) = true → (!ilt (wr .i64 ((↑(List.length x5):Int) - (1:Int))) (0:Int)) = true) (gd ((!ilt (wr .i64 ((↑(List.length x5):Int) - (1:Int))) (0:Int)) = true → (!ilt (wr .i64 ((↑(List.length x5):Int) - (1:Int))) (0:Int)) = true) (gd ((!ilt (wr .i64 ((↑(List.length x5):Int) - (1:Int))) (0:Int)) = true → (!ilt (wr .i64 ((↑(List.length x5):Int) - (1:Int))) (0:Int)) = true) (gd ((!ilt (wr .i64 ((↑(List.length x5):Int) - (1:Int))) (0:Int)) = true → (!ilt (wr .i64 ((↑(List.length x5):Int) - (1:Int))) (0:Int)) = true ∧ (!ilt (wr .i64 ((↑(List.length x5):Int) - (1:Int))) (0:Int)) = true ∧ (0:Int) ≤ wr .i64 ((↑(List.length x5):Int) - (1:Int)) ∧ List.length x0 ≤ (1000:Nat)) (gd ((!ilt (wr .i64 ((↑(List.length x5):Int) - (1:Int))) (0:Int)) = true → (!ilt (wr .i64 ((↑(List.length x5):Int) - (1:Int))) (0:Int)) = true) (gd ((!ilt (wr .i64 ((↑(List.length x5):Int) - (1:Int))) (0:Int)) = true → (!ilt (wr .i64 ((↑(List.length x5):Int) - (1:Int))) (0:Int)) = true) (gd ((!ilt (wr .i64 ((↑(List.length x5):Int) - (1:Int))) (0:Int)) = true → (!ilt (wr .i64 ((↑(List.length x5):Int) - (1:Int))) (0:Int)) = true) (gd ((!ilt (wr .i64 ((↑(List.length x5):Int) - (1:Int))) (0:Int)) = true → (!ilt (wr .i64 ((↑(List.length x5):Int) - (1:Int))) (0:Int)) = true ∧ (!ilt (wr .i64 ((↑(List.length x5):Int) - (1:Int))) (0:Int)) = true ∧ (0:Int) ≤ wr .i64 ((↑(List.length x5):Int) - (1:Int)) ∧ wr .i64 ((↑(List.length x5):Int) - (1:Int)) < (↑(List.length x5):Int)) (gd ((!ilt (wr .i64 ((↑(List.length x5):Int) - (1:Int))) (0:Int)) = true → (!ilt (wr .i64 ((↑(List.length x5):Int) - (1:Int))) (0:Int)) = true ∧ (0:Nat) + Int.toNat (wr .i64 ((↑(List.length x5):Int) - (1:Int))) < List.length x5) (gd ((!ilt (wr .i64 ((↑(List.length x5):Int) - (1:Int))) (0:Int)) = true → (!ilt (wr .i64 ((↑(List.length x5):Int) - (1:Int))) (0:Int)) = true) (gd ((!ilt (wr .i64 ((↑(List.length x5):Int) - (1:Int))) (0:Int)) = true → (!ilt (wr .i64 ((↑(List.length x5):Int) - (1:Int))) (0:Int)) = true ∧ (!ilt (wr .i64 ((↑(List.length x5):Int) - (1:Int))) (0:Int)) = true) (gd ((!ilt (wr .i64 ((↑(List.length x5):Int) - (1:Int))) (0:Int)) = true → (!ilt (wr .i64 ((↑(List.length x5):Int) - (1:Int))) (0:Int)) = true) (gd ((!ilt (wr .i64 ((↑(List.length x5):Int) - (1:Int))) (0:Int)) = true → (!ilt (wr .i64 ((↑(List.length x5):Int) - (1:Int))) (0:Int)) = true) (gd ((!ilt (wr .i64 ((↑(List.length x5):Int) - (1:Int))) (0:Int)) = true → (!ilt (wr .i64 ((↑(List.length x5):Int) - (1:Int))) (0:Int)) = true) (gd ((!ilt (wr .i64 ((↑(List.length x5):Int) - (1:Int))) (0:Int)) = true → (!ilt (wr .i64 ((↑(List.length x5):Int) - (1:Int))) (0:Int)) = true ∧ (!ilt (wr .i64 ((↑(List.length x5):Int) - (1:Int))) (0:Int)) = true ∧ (0:Int) ≤ wr .i64 ((↑(List.length x5):Int) - (1:Int)) ∧ List.length x1 ≤ (1000:Nat)) (gd ((!ilt (wr .i64 ((↑(List.length x5):Int) - (1:Int))) (0:Int)) = true → (!ilt (wr .i64 ((↑(List.length x5):Int) - (1:Int))) (0:Int)) = true ∧ (!ilt (wr .i64 ((↑(List.length x5):Int) - (1:Int))) (0:Int)) = true) (gd (ilt (wr .i64 ((↑(List.length x5):Int) - (1:Int))) (0:Int) = false → (!ilt (wr .i64 ((↑(List.length x5):Int) - (1:Int))) (0:Int)) = true) (bif g77c_c1 x0 x1 x5 then bif ieq (wr .i64 (wr .i64 ((↑(List.length x5):Int) - (1:Int)) + (1:Int))) (↑(List.length x1):Int) then gd (List.length x5 = List.length x5) (gd (ent8 x5 ∧ (0:Int) ≤ x3 ∧ x3 ≤ (500000000:Int)) (gd (List.length x4 = List.length x4) (gd (List.length x5 = List.length x5) (some ((true,x0,x1,x2,x3 + latN x5,x4,x5,()) : Bool × List Int × List Int × Int × Int × List Int × List (List Int) × Unit))))) else gd ((0:Nat) = (0:Nat)) (gd (List.length x5 ≤ List.length x5) (gd ((List.length x5 + (1:Nat)) * (24:Nat) ≤ (1099511627776:Nat)) (gd (List.length x4 = List.length x4) (gd (List.length x5 + (1:Nat) = List.length (List.take (List.length x5) x5 ++ ([]:List Int) :: ([]:List (List Int)))) (gd (preB n x0 x1 x4 x2 (List.take (List.length x5) x5 ++ ([]:List Int) :: ([]:List (List Int))) x3) (gd ((0:Int) ≤ wr .i64 (wr .i64 ((↑(List.length x5):Int) - (1:Int)) + (1:Int)) ∧ wr .i64 (wr .i64 ((↑(List.length x5):Int) - (1:Int)) + (1:Int)) ≤ (↑(List.length (List.take (List.length x5) x5 ++ ([]:List Int) :: ([]:List (List Int)))):Int)) (gd (List.length x4 = List.length x4) (gd (Int.toNat (wr .i64 (wr .i64 ((↑(List.length x5):Int) - (1:Int)) + (1:Int))) = List.length (List.take (Int.toNat (wr .i64 (wr .i64 ((↑(List.length x5):Int) - (1:Int)) + (1:Int)))) (List.take (List.length x5) x5 ++ ([]:List Int) :: ([]:List (List Int))))) (some ((true,x0,x1,x2,x3 + filL x0 x1 x2 n x4 (List.take (List.length x5) x5 ++ ([]:List Int) :: ([]:List (List Int))),x4,List.take (Int.toNat (wr .i64 (wr .i64 ((↑(List.length x5):Int) - (1:Int)) + (1:Int)))) (List.take (List.length x5) x5 ++ ([]:List Int) :: ([]:List (List Int))),()) : Bool × List Int × List Int × Int × Int × List Int × List (List Int) × Unit)))))))))) else gd ((0:Int) ≤ wr .i64 ((↑(List.length x5):Int) - (1:Int)) ∧ List.length x0 ≤ (1000:Nat)) (gd ((0:Int) ≤ wr .i64 ((↑(List.length x5):Int) - (1:Int)) ∧ wr .i64 ((↑(List.length x5):Int) - (1:Int)) < (↑(List.length x5):Int)) (gd ((0:Nat) + Int.toNat (wr .i64 ((↑(List.length x5):Int) - (1:Int))) < List.length x5) (gd ((0:Nat) + List.length x4 ≤ List.length x4) (gd ((0:Nat) + List.length x5 ≤ List.length x5) (gd (atP x0 (List.take (List.length x5) (List.drop (0:Nat) x5)) (wr .i64 (wr .i64 ((↑(List.length x5):Int) - (1:Int)) - (1:Int))) (g77c_c0 x0 x5)) (gd ((0:Int) ≤ wr .i64 ((↑(List.length x5):Int) - (1:Int)) ∧ wr .i64 ((↑(List.length x5):Int) - (1:Int)) < (↑(List.length x5):Int)) (gd ((0:Nat) + Int.toNat (wr .i64 ((↑(List.length x5):Int) - (1:Int))) < List.length x5) (bif g77c_c3 x5 then gd ((0:Nat) + List.length x4 ≤ List.length x4) (gd ((0:Nat) + List.length x5 ≤ List.length x5) (gd (atP x0 (List.take (List.length x5) (List.drop (0:Nat) x5)) (wr .i64 ((↑(List.length x5):Int) - (1:Int))) (wr .i64 (g77c_c0 x0 x5 - (1:Int)))) (gd (List.length x4 = List.length x4) (gd (List.length x5 = List.length x5) (whileO (fun (d7 : Int × List Int × List Int × Int × Int × List Int × List (List Int) × Unit)=>bif ile d7.1 d7.2.2.2.1 then gd (¬List.length d7.2.2.2.2.2.1 = (0:Nat)) (gd ((0:Int) ≤ wr .i64 (d7.1 - (1:Int)) ∧ wr .i64 (d7.1 - (1:Int)) < (↑(List.length d7.2.2.2.2.2.1):Int)) (gd ((0:Nat) + Int.toNat (wr .i64 (d7.1 - (1:Int))) < List.length d7.2.2.2.2.2.1) (bif g77c_c5 d7 then gd (List.length d7.2.2.2.2.2.1 = List.length d7.2.2.2.2.2.1) (gd (List.length d7.2.2.2.2.2.2.1 = List.length d7.2.2.2.2.2.2.1) (some (Lp.go ((wr .i64 (d7.1 + (1:Int)),d7.2.1,d7.2.2.1,d7.2.2.2.1,d7.2.2.2.2.1,d7.2.2.2.2.2.1,d7.2.2.2.2.2.2.1,()) : Int × List Int × List Int × Int × Int × List Int × List (List Int) × Unit)))) else gd ((0:Int) ≤ wr .i64 (d7.1 - (1:Int)) ∧ wr .i64 (d7.1 - (1:Int)) < (↑(List.length d7.2.2.2.2.2.1):Int)) (gd ((0:Nat) + Int.toNat (wr .i64 (d7.1 - (1:Int))) < List.length d7.2.2.2.2.2.1) (gd ((0:Int) ≤ wr .i64 (d7.1 - (1:Int)) ∧ wr .i64 (d7.1 - (1:Int)) < (↑(List.length d7.2.2.2.2.2.1):Int)) (gd ((0:Nat) + Int.toNat (wr .i64 (d7.1 - (1:Int))) < List.length d7.2.2.2.2.2.1) (gd ((0:Int) ≤ wr .i64 ((↑(List.length x5):Int) - (1:Int)) ∧ wr .i64 ((↑(List.length x5):Int) - (1:Int)) < (↑(List.length d7.2.2.2.2.2.2.1):Int)) (gd ((0:Nat) + Int.toNat (wr .i64 ((↑(List.length x5):Int) - (1:Int))) < List.length d7.2.2.2.2.2.2.1) (gd ((0:Nat) + Int.toNat (wr .i64 ((↑(List.length x5):Int) - (1:Int))) < List.length d7.2.2.2.2.2.2.1) (gd (List.length (List.getD d7.2.2.2.2.2.2.1 ((0:Nat) + Int.toNat (wr .i64 ((↑(List.length x5):Int) - (1:Int)))) ([]:List Int)) ≤ List.length (List.getD d7.2.2.2.2.2.2.1 ((0:Nat) + Int.toNat (wr .i64 ((↑(List.length x5):Int) - (1:Int)))) ([]:List Int))) (gd ((List.length (List.getD d7.2.2.2.2.2.2.1 ((0:Nat) + Int.toNat (wr .i64 ((↑(List.length x5):Int) - (1:Int)))) ([]:List Int)) + (1:Nat)) * (8:Nat) ≤ (1099511627776:Nat)) (gd ((0:Int) ≤ wr .i64 ((↑(List.length x5):Int) - (1:Int)) ∧ wr .i64 ((↑(List.length x5):Int) - (1:Int)) < (↑(List.length d7.2.2.2.2.2.2.1):Int)) (gd ((0:Nat) + Int.toNat (wr .i64 ((↑(List.length x5):Int) - (1:Int))) < List.length (List.set d7.2.2.2.2.2.2.1 ((0:Nat) + Int.toNat (wr .i64 ((↑(List.length x5):Int) - (1:Int)))) (List.take (List.length (List.getD d7.2.2.2.2.2.2.1 ((0:Nat) + Int.toNat (wr .i64 ((↑(List.length x5):Int) - (1:Int)))) ([]:List Int))) (List.getD d7.2.2.2.2.2.2.1 ((0:Nat) + Int.toNat (wr .i64 ((↑(List.length x5):Int) - (1:Int)))) ([]:List Int)) ++ d7.1 :: ([]:List Int)))) (gd ((0:Nat) + Int.toNat (wr .i64 ((↑(List.length x5):Int) - (1:Int))) = (0:Nat) + Int.toNat (wr .i64 ((↑(List.length x5):Int) - (1:Int)))) (gd ((0:Nat) + Int.toNat (wr .i64 ((↑(List.length x5):Int) - (1:Int))) = (0:Nat) + Int.toNat (wr .i64 ((↑(List.length x5):Int) - (1:Int)))) (gd (List.length (List.getD d7.2.2.2.2.2.2.1 ((0:Nat) + Int.toNat (wr .i64 ((↑(List.length x5):Int) - (1:Int)))) ([]:List Int)) + (1:Nat) = List.length (List.getD (List.set d7.2.2.2.2.2.2.1 ((0:Nat) + Int.toNat (wr .i64 ((↑(List.length x5):Int) - (1:Int)))) (List.take (List.length (List.getD d7.2.2.2.2.2.2.1 ((0:Nat) + Int.toNat (wr .i64 ((↑(List.length x5):Int) - (1:Int)))) ([]:List Int))) (List.getD d7.2.2.2.2.2.2.1 ((0:Nat) + Int.toNat (wr .i64 ((↑(List.length x5):Int) - (1:Int)))) ([]:List Int)) ++ d7.1 :: ([]:List Int))) ((0:Nat) + Int.toNat (wr .i64 ((↑(List.length x5):Int) - (1:Int)))) ([]:List Int))) (gd (List.length d7.2.2.2.2.2.1 = List.length (List.set d7.2.2.2.2.2.1 ((0:Nat) + Int.toNat (wr .i64 (d7.1 - (1:Int)))) (g77c_c6 d7))) (gd (List.length d7.2.2.2.2.2.2.1 = List.length (List.set d7.2.2.2.2.2.2.1 ((0:Nat) + Int.toNat (wr .i64 ((↑(List.length x5):Int) - (1:Int)))) (List.take (List.length (List.getD d7.2.2.2.2.2.2.1 ((0:Nat) + Int.toNat (wr .i64 ((↑(List.length x5):Int) - (1:Int)))) ([]:List Int))) (List.getD d7.2.2.2.2.2.2.1 ((0:Nat) + Int.toNat (wr .i64 ((↑(List.length x5):Int) - (1:Int)))) ([]:List Int)) ++ d7.1 :: ([]:List Int)))) (gd (preB n d7.2.1 d7.2.2.1 (List.set d7.2.2.2.2.2.1 ((0:Nat) + Int.toNat (wr .i64 (d7.1 - (1:Int)))) (g77c_c6 d7)) d7.2.2.2.1 (List.set d7.2.2.2.2.2.2.1 ((0:Nat) + Int.toNat (wr .i64 ((↑(List.length x5):Int) - (1:Int)))) (List.take (List.length (List.getD d7.2.2.2.2.2.2.1 ((0:Nat) + Int.toNat (wr .i64 ((↑(List.length x5):Int) - (1:Int)))) ([]:List Int))) (List.getD d7.2.2.2.2.2.2.1 ((0:Nat) + Int.toNat (wr .i64 ((↑(List.length x5):Int) - (1:Int)))) ([]:List Int)) ++ d7.1 :: ([]:List Int))) d7.2.2.2.2.1) (gd ((0:Int) ≤ wr .i64 ((↑(List.length x5):Int) - (1:Int)) ∧ wr .i64 ((↑(List.length x5):Int) - (1:Int)) < (↑(List.length (List.set d7.2.2.2.2.2.2.1 ((0:Nat) + Int.toNat (wr .i64 ((↑(List.length x5):Int) - (1:Int)))) (List.take (List.length (List.getD d7.2.2.2.2.2.2.1 ((0:Nat) + Int.toNat (wr .i64 ((↑(List.length x5):Int) - (1:Int)))) ([]:List Int))) (List.getD d7.2.2.2.2.2.2.1 ((0:Nat) + Int.toNat (wr .i64 ((↑(List.length x5):Int) - (1:Int)))) ([]:List Int)) ++ d7.1 :: ([]:List Int)))):Int)) (gd ((0:Nat) + Int.toNat (wr .i64 ((↑(List.length x5):Int) - (1:Int))) < List.length (List.set d7.2.2.2.2.2.2.1 ((0:Nat) + Int.toNat (wr .i64 ((↑(List.length x5):Int) - (1:Int)))) (List.take (List.length (List.getD d7.2.2.2.2.2.2.1 ((0:Nat) + Int.toNat (wr .i64 ((↑(List.length x5):Int) - (1:Int)))) ([]:List Int))) (List.getD d7.2.2.2.2.2.2.1 ((0:Nat) + Int.toNat (wr .i64 ((↑(List.length x5):Int) - (1:Int)))) ([]:List Int)) ++ d7.1 :: ([]:List Int)))) (gd ((0:Int) ≤ wr .i64 ((↑(List.length x5):Int) - (1:Int)) ∧ wr .i64 ((↑(List.length x5):Int) - (1:Int)) < (↑(List.length (List.set d7.2.2.2.2.2.2.1 ((0:Nat) + Int.toNat (wr .i64 ((↑(List.length x5):Int) - (1:Int)))) (List.take (List.length (List.getD d7.2.2.2.2.2.2.1 ((0:Nat) + Int.toNat (wr .i64 ((↑(List.length x5):Int) - (1:Int)))) ([]:List Int))) (List.getD d7.2.2.2.2.2.2.1 ((0:Nat) + Int.toNat (wr .i64 ((↑(List.length x5):Int) - (1:Int)))) ([]:List Int)) ++ d7.1 :: ([]:List Int)))):Int)) (gd ((0:Nat) + Int.toNat (wr .i64 ((↑(List.length x5):Int) - (1:Int))) < List.length (List.set d7.2.2.2.2.2.2.1 ((0:Nat) + Int.toNat (wr .i64 ((↑(List.length x5):Int) - (1:Int)))) (List.take (List.length (List.getD d7.2.2.2.2.2.2.1 ((0:Nat) + Int.toNat (wr .i64 ((↑(List.length x5):Int) - (1:Int)))) ([]:List Int))) (List.getD d7.2.2.2.2.2.2.1 ((0:Nat) + Int.toNat (wr .i64 ((↑(List.length x5):Int) - (1:Int)))) ([]:List Int)) ++ d7.1 :: ([]:List Int)))) (gd ((0:Int) ≤ wr .i64 (g77c_c7 x5 d7 - (1:Int)) ∧ wr .i64 (g77c_c7 x5 d7 - (1:Int)) ≤ (↑(List.length (List.getD (List.set d7.2.2.2.2.2.2.1 ((0:Nat) + Int.toNat (wr .i64 ((↑(List.length x5):Int) - (1:Int)))) (List.take (List.length (List.getD d7.2.2.2.2.2.2.1 ((0:Nat) + Int.toNat (wr .i64 ((↑(List.length x5):Int) - (1:Int)))) ([]:List Int))) (List.getD d7.2.2.2.2.2.2.1 ((0:Nat) + Int.toNat (wr .i64 ((↑(List.length x5):Int) - (1:Int)))) ([]:List Int)) ++ d7.1 :: ([]:List Int))) ((0:Nat) + Int.toNat (wr .i64 ((↑(List.length x5):Int) - (1:Int)))) ([]:List Int))):Int)) (gd ((0:Int) ≤ wr .i64 ((↑(List.length x5):Int) - (1:Int)) ∧ wr .i64 ((↑(List.length x5):Int) - (1:Int)) < (↑(List.length (List.set d7.2.2.2.2.2.2.1 ((0:Nat) + Int.toNat (wr .i64 ((↑(List.length x5):Int) - (1:Int)))) (List.take (List.length (List.getD d7.2.2.2.2.2.2.1 ((0:Nat) + Int.toNat (wr .i64 ((↑(List.length x5):Int) - (1:Int)))) ([]:List Int))) (List.getD d7.2.2.2.2.2.2.1 ((0:Nat) + Int.toNat (wr .i64 ((↑(List.length x5):Int) - (1:Int)))) ([]:List Int)) ++ d7.1 :: ([]:List Int)))):Int)) (gd ((0:Nat) + Int.toNat (wr .i64 ((↑(List.length x5):Int) - (1:Int))) < List.length (List.set d7.2.2.2.2.2.2.1 ((0:Nat) + Int.toNat (wr .i64 ((↑(List.length x5):Int) - (1:Int)))) (List.take (List.length (List.getD d7.2.2.2.2.2.2.1 ((0:Nat) + Int.toNat (wr .i64 ((↑(List.length x5):Int) - (1:Int)))) ([]:List Int))) (List.getD d7.2.2.2.2.2.2.1 ((0:Nat) + Int.toNat (wr .i64 ((↑(List.length x5):Int) - (1:Int)))) ([]:List Int)) ++ d7.1 :: ([]:List Int)))) (gd ((0:Nat) + Int.toNat (wr .i64 ((↑(List.length x5):Int) - (1:Int))) = (0:Nat) + Int.toNat (wr .i64 ((↑(List.length x5):Int) - (1:Int)))) (gd (Int.toNat (wr .i64 (g77c_c7 x5 d7 - (1:Int))) ≤ List.length (List.getD (List.set d7.2.2.2.2.2.2.1 ((0:Nat) + Int.toNat (wr .i64 ((↑(List.length x5):Int) - (1:Int)))) (List.take (List.length (List.getD d7.2.2.2.2.2.2.1 ((0:Nat) + Int.toNat (wr .i64 ((↑(List.length x5):Int) - (1:Int)))) ([]:List Int))) (List.getD d7.2.2.2.2.2.2.1 ((0:Nat) + Int.toNat (wr .i64 ((↑(List.length x5):Int) - (1:Int)))) ([]:List Int)) ++ d7.1 :: ([]:List Int))) ((0:Nat) + Int.toNat (wr .i64 ((↑(List.length x5):Int) - (1:Int)))) ([]:List Int))) (gd (¬List.length (List.set d7.2.2.2.2.2.1 ((0:Nat) + Int.toNat (wr .i64 (d7.1 - (1:Int)))) (g77c_c6 d7)) = (0:Nat)) (gd ((0:Int) ≤ wr .i64 (d7.1 - (1:Int)) ∧ wr .i64 (d7.1 - (1:Int)) < (↑(List.length (List.set d7.2.2.2.2.2.1 ((0:Nat) + Int.toNat (wr .i64 (d7.1 - (1:Int)))) (g77c_c6 d7))):Int)) (gd ((0:Nat) + Int.toNat (wr .i64 (d7.1 - (1:Int))) < List.length (List.set d7.2.2.2.2.2.1 ((0:Nat) + Int.toNat (wr .i64 (d7.1 - (1:Int)))) (g77c_c6 d7))) (gd ((0:Int) ≤ wr .i64 (d7.1 - (1:Int)) ∧ wr .i64 (d7.1 - (1:Int)) < (↑(List.length (List.set d7.2.2.2.2.2.1 ((0:Nat) + Int.toNat (wr .i64 (d7.1 - (1:Int)))) (g77c_c6 d7))):Int)) (gd ((0:Nat) + Int.toNat (wr .i64 (d7.1 - (1:Int))) < List.length (List.set d7.2.2.2.2.2.1 ((0:Nat) + Int.toNat (wr .i64 (d7.1 - (1:Int)))) (g77c_c6 d7))) (gd (List.length (List.set d7.2.2.2.2.2.1 ((0:Nat) + Int.toNat (wr .i64 (d7.1 - (1:Int)))) (g77c_c6 d7)) = List.length (List.set (List.set d7.2.2.2.2.2.1 ((0:Nat) + Int.toNat (wr .i64 (d7.1 - (1:Int)))) (g77c_c6 d7)) ((0:Nat) + Int.toNat (wr .i64 (d7.1 - (1:Int)))) (wr .i64 (g77c_c8 d7 + (1:Int))))) (gd (List.length (List.set d7.2.2.2.2.2.2.1 ((0:Nat) + Int.toNat (wr .i64 ((↑(List.length x5):Int) - (1:Int)))) (List.take (List.length (List.getD d7.2.2.2.2.2.2.1 ((0:Nat) + Int.toNat (wr .i64 ((↑(List.length x5):Int) - (1:Int)))) ([]:List Int))) (List.getD d7.2.2.2.2.2.2.1 ((0:Nat) + Int.toNat (wr .i64 ((↑(List.length x5):Int) - (1:Int)))) ([]:List Int)) ++ d7.1 :: ([]:List Int))) = List.length (List.set (List.set d7.2.2.2.2.2.2.1 ((0:Nat) + Int.toNat (wr .i64 ((↑(List.length x5):Int) - (1:Int)))) (List.take (List.length (List.getD d7.2.2.2.2.2.2.1 ((0:Nat) + Int.toNat (wr .i64 ((↑(List.length x5):Int) - (1:Int)))) ([]:List Int))) (List.getD d7.2.2.2.2.2.2.1 ((0:Nat) + Int.toNat (wr .i64 ((↑(List.length x5):Int) - (1:Int)))) ([]:List Int)) ++ d7.1 :: ([]:List Int))) ((0:Nat) + Int.toNat (wr .i64 ((↑(List.length x5):Int) - (1:Int)))) (List.take (Int.toNat (wr .i64 (g77c_c7 x5 d7 - (1:Int)))) (List.getD (List.set d7.2.2.2.2.2.2.1 ((0:Nat) + Int.toNat (wr .i64 ((↑(List.length x5):Int) - (1:Int)))) (List.take (List.length (List.getD d7.2.2.2.2.2.2.1 ((0:Nat) + Int.toNat (wr .i64 ((↑(List.length x5):Int) - (1:Int)))) ([]:List Int))) (List.getD d7.2.2.2.2.2.2.1 ((0:Nat) + Int.toNat (wr .i64 ((↑(List.length x5):Int) - (1:Int)))) ([]:List Int)) ++ d7.1 :: ([]:List Int))) ((0:Nat) + Int.toNat (wr .i64 ((↑(List.length x5):Int) - (1:Int)))) ([]:List Int))))) (some (Lp.go ((wr .i64 (d7.1 + (1:Int)),d7.2.1,d7.2.2.1,d7.2.2.2.1,d7.2.2.2.2.1 + filL d7.2.1 d7.2.2.1 d7.2.2.2.1 n (List.set d7.2.2.2.2.2.1 ((0:Nat) + Int.toNat (wr .i64 (d7.1 - (1:Int)))) (g77c_c6 d7)) (List.set d7.2.2.2.2.2.2.1 ((0:Nat) + Int.toNat (wr .i64 ((↑(List.length x5):Int) - (1:Int)))) (List.take (List.length (List.getD d7.2.2.2.2.2.2.1 ((0:Nat) + Int.toNat (wr .i64 ((↑(List.length x5):Int) - (1:Int)))) ([]:List Int))) (List.getD d7.2.2.2.2.2.2.1 ((0:Nat) + Int.toNat (wr .i64 ((↑(List.length x5):Int) - (1:Int)))) ([]:List Int)) ++ d7.1 :: ([]:List Int))),List.set (List.set d7.2.2.2.2.2.1 ((0:Nat) + Int.toNat (wr .i64 (d7.1 - (1:Int)))) (g77c_c6 d7)) ((0:Nat) + Int.toNat (wr .i64 (d7.1 - (1:Int)))) (wr .i64 (g77c_c8 d7 + (1:Int))),List.set (List.set d7.2.2.2.2.2.2.1 ((0:Nat) + Int.toNat (wr .i64 ((↑(List.length x5):Int) - (1:Int)))) (List.take (List.length (List.getD d7.2.2.2.2.2.2.1 ((0:Nat) + Int.toNat (wr .i64 ((↑(List.length x5):Int) - (1:Int)))) ([]:List Int))) (List.getD d7.2.2.2.2.2.2.1 ((0:Nat) + Int.toNat (wr .i64 ((↑(List.length x5):Int) - (1:Int)))) ([]:List Int)) ++ d7.1 :: ([]:List Int))) ((0:Nat) + Int.toNat (wr .i64 ((↑(List.length x5):Int) - (1:Int)))) (List.take (Int.toNat (wr .i64 (g77c_c7 x5 d7 - (1:Int)))) (List.getD (List.set d7.2.2.2.2.2.2.1 ((0:Nat) + Int.toNat (wr .i64 ((↑(List.length x5):Int) - (1:Int)))) (List.take (List.length (List.getD d7.2.2.2.2.2.2.1 ((0:Nat) + Int.toNat (wr .i64 ((↑(List.length x5):Int) - (1:Int)))) ([]:List Int))) (List.getD d7.2.2.2.2.2.2.1 ((0:Nat) + Int.toNat (wr .i64 ((↑(List.length x5):Int) - (1:Int)))) ([]:List Int)) ++ d7.1 :: ([]:List Int))) ((0:Nat) + Int.toNat (wr .i64 ((↑(List.length x5):Int) - (1:Int)))) ([]:List Int))),()) : Int × List Int × List Int × Int × Int × List Int × List (List Int) × Unit)))))))))))))))))))))))))))))))))))))) else gd (List.length d7.2.2.2.2.2.1 = List.length d7.2.2.2.2.2.1) (gd (List.length d7.2.2.2.2.2.2.1 = List.length d7.2.2.2.2.2.2.1) (some (Lp.out ((true,d7.2.1,d7.2.2.1,d7.2.2.2.1,d7.2.2.2.2.1,d7.2.2.2.2.2.1,d7.2.2.2.2.2.2.1,()) : Bool × List Int × List Int × Int × Int × List Int × List (List Int) × Unit))))) ((imax (imax (1:Int) (wr .i64 (g77c_c2 x0 x5 + (1:Int)))) (g77c_c4 x0 x5),x0,x1,x2,x3,x4,x5,()) : Int × List Int × List Int × Int × Int × List Int × List (List Int) × Unit)))))) else gd (List.length x4 = List.length x4) (gd (List.length x5 = List.length x5) (whileO (fun (d7 : Int × List Int × List Int × Int × Int × List Int × List (List Int) × Unit)=>bif ile d7.1 d7.2.2.2.1 then gd (¬List.length d7.2.2.2.2.2.1 = (0:Nat)) (gd ((0:Int) ≤ wr .i64 (d7.1 - (1:Int)) ∧ wr .i64 (d7.1 - (1:Int)) < (↑(List.length d7.2.2.2.2.2.1):Int)) (gd ((0:Nat) + Int.toNat (wr .i64 (d7.1 - (1:Int))) < List.length d7.2.2.2.2.2.1) (bif g77c_c9 d7 then gd (List.length d7.2.2.2.2.2.1 = List.length d7.2.2.2.2.2.1) (gd (List.length d7.2.2.2.2.2.2.1 = List.length d7.2.2.2.2.2.2.1) (some (Lp.go ((wr .i64 (d7.1 + (1:Int)),d7.2.1,d7.2.2.1,d7.2.2.2.1,d7.2.2.2.2.1,d7.2.2.2.2.2.1,d7.2.2.2.2.2.2.1,()) : Int × List Int × List Int × Int × Int × List Int × List (List Int) × Unit)))) else gd ((0:Int) ≤ wr .i64 (d7.1 - (1:Int)) ∧ wr .i64 (d7.1 - (1:Int)) < (↑(List.length d7.2.2.2.2.2.1):Int)) (gd ((0:Nat) + Int.toNat (wr .i64 (d7.1 - (1:Int))) < List.length d7.2.2.2.2.2.1) (gd ((0:Int) ≤ wr .i64 (d7.1 - (1:Int)) ∧ wr .i64 (d7.1 - (1:Int)) < (↑(List.length d7.2.2.2.2.2.1):Int)) (gd ((0:Nat) + Int.toNat (wr .i64 (d7.1 - (1:Int))) < List.length d7.2.2.2.2.2.1) (gd ((0:Int) ≤ wr .i64 ((↑(List.length x5):Int) - (1:Int)) ∧ wr .i64 ((↑(List.length x5):Int) - (1:Int)) < (↑(List.length d7.2.2.2.2.2.2.1):Int)) (gd ((0:Nat) + Int.toNat (wr .i64 ((↑(List.length x5):Int) - (1:Int))) < List.length d7.2.2.2.2.2.2.1) (gd ((0:Nat) + Int.toNat (wr .i64 ((↑(List.length x5):Int) - (1:Int))) < List.length d7.2.2.2.2.2.2.1) (gd (List.length (List.getD d7.2.2.2.2.2.2.1 ((0:Nat) + Int.toNat (wr .i64 ((↑(List.length x5):Int) - (1:Int)))) ([]:List Int)) ≤ List.length (List.getD d7.2.2.2.2.2.2.1 ((0:Nat) + Int.toNat (wr .i64 ((↑(List.length x5):Int) - (1:Int)))) ([]:List Int))) (gd ((List.length (List.getD d7.2.2.2.2.2.2.1 ((0:Nat) + Int.toNat (wr .i64 ((↑(List.length x5):Int) - (1:Int)))) ([]:List Int)) + (1:Nat)) * (8:Nat) ≤ (1099511627776:Nat)) (gd ((0:Int) ≤ wr .i64 ((↑(List.length x5):Int) - (1:Int)) ∧ wr .i64 ((↑(List.length x5):Int) - (1:Int)) < (↑(List.length d7.2.2.2.2.2.2.1):Int)) (gd ((0:Nat) + Int.toNat (wr .i64 ((↑(List.length x5):Int) - (1:Int))) < List.length (List.set d7.2.2.2.2.2.2.1 ((0:Nat) + Int.toNat (wr .i64 ((↑(List.length x5):Int) - (1:Int)))) (List.take (List.length (List.getD d7.2.2.2.2.2.2.1 ((0:Nat) + Int.toNat (wr .i64 ((↑(List.length x5):Int) - (1:Int)))) ([]:List Int))) (List.getD d7.2.2.2.2.2.2.1 ((0:Nat) + Int.toNat (wr .i64 ((↑(List.length x5):Int) - (1:Int)))) ([]:List Int)) ++ d7.1 :: ([]:List Int)))) (gd ((0:Nat) + Int.toNat (wr .i64 ((↑(List.length x5):Int) - (1:Int))) = (0:Nat) + Int.toNat (wr .i64 ((↑(List.length x5):Int) - (1:Int)))) (gd ((0:Nat) + Int.toNat (wr .i64 ((↑(List.length x5):Int) - (1:Int))) = (0:Nat) + Int.toNat (wr .i64 ((↑(List.length x5):Int) - (1:Int)))) (gd (List.length (List.getD d7.2.2.2.2.2.2.1 ((0:Nat) + Int.toNat (wr .i64 ((↑(List.length x5):Int) - (1:Int)))) ([]:List Int)) + (1:Nat) = List.length (List.getD (List.set d7.2.2.2.2.2.2.1 ((0:Nat) + Int.toNat (wr .i64 ((↑(List.length x5):Int) - (1:Int)))) (List.take (List.length (List.getD d7.2.2.2.2.2.2.1 ((0:Nat) + Int.toNat (wr .i64 ((↑(List.length x5):Int) - (1:Int)))) ([]:List Int))) (List.getD d7.2.2.2.2.2.2.1 ((0:Nat) + Int.toNat (wr .i64 ((↑(List.length x5):Int) - (1:Int)))) ([]:List Int)) ++ d7.1 :: ([]:List Int))) ((0:Nat) + Int.toNat (wr .i64 ((↑(List.length x5):Int) - (1:Int)))) ([]:List Int))) (gd (List.length d7.2.2.2.2.2.1 = List.length (List.set d7.2.2.2.2.2.1 ((0:Nat) + Int.toNat (wr .i64 (d7.1 - (1:Int)))) (g77c_c10 d7))) (gd (List.length d7.2.2.2.2.2.2.1 = List.length (List.set d7.2.2.2.2.2.2.1 ((0:Nat) + Int.toNat (wr .i64 ((↑(List.length x5):Int) - (1:Int)))) (List.take (List.length (List.getD d7.2.2.2.2.2.2.1 ((0:Nat) + Int.toNat (wr .i64 ((↑(List.length x5):Int) - (1:Int)))) ([]:List Int))) (List.getD d7.2.2.2.2.2.2.1 ((0:Nat) + Int.toNat (wr .i64 ((↑(List.length x5):Int) - (1:Int)))) ([]:List Int)) ++ d7.1 :: ([]:List Int)))) (gd (preB n d7.2.1 d7.2.2.1 (List.set d7.2.2.2.2.2.1 ((0:Nat) + Int.toNat (wr .i64 (d7.1 - (1:Int)))) (g77c_c10 d7)) d7.2.2.2.1 (List.set d7.2.2.2.2.2.2.1 ((0:Nat) + Int.toNat (wr .i64 ((↑(List.length x5):Int) - (1:Int)))) (List.take (List.length (List.getD d7.2.2.2.2.2.2.1 ((0:Nat) + Int.toNat (wr .i64 ((↑(List.length x5):Int) - (1:Int)))) ([]:List Int))) (List.getD d7.2.2.2.2.2.2.1 ((0:Nat) + Int.toNat (wr .i64 ((↑(List.length x5):Int) - (1:Int)))) ([]:List Int)) ++ d7.1 :: ([]:List Int))) d7.2.2.2.2.1) (gd ((0:Int) ≤ wr .i64 ((↑(List.length x5):Int) - (1:Int)) ∧ wr .i64 ((↑(List.length x5):Int) - (1:Int)) < (↑(List.length (List.set d7.2.2.2.2.2.2.1 ((0:Nat) + Int.toNat (wr .i64 ((↑(List.length x5):Int) - (1:Int)))) (List.take (List.length (List.getD d7.2.2.2.2.2.2.1 ((0:Nat) + Int.toNat (wr .i64 ((↑(List.length x5):Int) - (1:Int)))) ([]:List Int))) (List.getD d7.2.2.2.2.2.2.1 ((0:Nat) + Int.toNat (wr .i64 ((↑(List.length x5):Int) - (1:Int)))) ([]:List Int)) ++ d7.1 :: ([]:List Int)))):Int)) (gd ((0:Nat) + Int.toNat (wr .i64 ((↑(List.length x5):Int) - (1:Int))) < List.length (List.set d7.2.2.2.2.2.2.1 ((0:Nat) + Int.toNat (wr .i64 ((↑(List.length x5):Int) - (1:Int)))) (List.take (List.length (List.getD d7.2.2.2.2.2.2.1 ((0:Nat) + Int.toNat (wr .i64 ((↑(List.length x5):Int) - (1:Int)))) ([]:List Int))) (List.getD d7.2.2.2.2.2.2.1 ((0:Nat) + Int.toNat (wr .i64 ((↑(List.length x5):Int) - (1:Int)))) ([]:List Int)) ++ d7.1 :: ([]:List Int)))) (gd ((0:Int) ≤ wr .i64 ((↑(List.length x5):Int) - (1:Int)) ∧ wr .i64 ((↑(List.length x5):Int) - (1:Int)) < (↑(List.length (List.set d7.2.2.2.2.2.2.1 ((0:Nat) + Int.toNat (wr .i64 ((↑(List.length x5):Int) - (1:Int)))) (List.take (List.length (List.getD d7.2.2.2.2.2.2.1 ((0:Nat) + Int.toNat (wr .i64 ((↑(List.length x5):Int) - (1:Int)))) ([]:List Int))) (List.getD d7.2.2.2.2.2.2.1 ((0:Nat) + Int.toNat (wr .i64 ((↑(List.length x5):Int) - (1:Int)))) ([]:List Int)) ++ d7.1 :: ([]:List Int)))):Int)) (gd ((0:Nat) + Int.toNat (wr .i64 ((↑(List.length x5):Int) - (1:Int))) < List.length (List.set d7.2.2.2.2.2.2.1 ((0:Nat) + Int.toNat (wr .i64 ((↑(List.length x5):Int) - (1:Int)))) (List.take (List.length (List.getD d7.2.2.2.2.2.2.1 ((0:Nat) + Int.toNat (wr .i64 ((↑(List.length x5):Int) - (1:Int)))) ([]:List Int))) (List.getD d7.2.2.2.2.2.2.1 ((0:Nat) + Int.toNat (wr .i64 ((↑(List.length x5):Int) - (1:Int)))) ([]:List Int)) ++ d7.1 :: ([]:List Int)))) (gd ((0:Int) ≤ wr .i64 (g77c_c11 x5 d7 - (1:Int)) ∧ wr .i64 (g77c_c11 x5 d7 - (1:Int)) ≤ (↑(List.length (List.getD (List.set d7.2.2.2.2.2.2.1 ((0:Nat) + Int.toNat (wr .i64 ((↑(List.length x5):Int) - (1:Int)))) (List.take (List.length (List.getD d7.2.2.2.2.2.2.1 ((0:Nat) + Int.toNat (wr .i64 ((↑(List.length x5):Int) - (1:Int)))) ([]:List Int))) (List.getD d7.2.2.2.2.2.2.1 ((0:Nat) + Int.toNat (wr .i64 ((↑(List.length x5):Int) - (1:Int)))) ([]:List Int)) ++ d7.1 :: ([]:List Int))) ((0:Nat) + Int.toNat (wr .i64 ((↑(List.length x5):Int) - (1:Int)))) ([]:List Int))):Int)) (gd ((0:Int) ≤ wr .i64 ((↑(List.length x5):Int) - (1:Int)) ∧ wr .i64 ((↑(List.length x5):Int) - (1:Int)) < (↑(List.length (List.set d7.2.2.2.2.2.2.1 ((0:Nat) + Int.toNat (wr .i64 ((↑(List.length x5):Int) - (1:Int)))) (List.take (List.length (List.getD d7.2.2.2.2.2.2.1 ((0:Nat) + Int.toNat (wr .i64 ((↑(List.length x5):Int) - (1:Int)))) ([]:List Int))) (List.getD d7.2.2.2.2.2.2.1 ((0:Nat) + Int.toNat (wr .i64 ((↑(List.length x5):Int) - (1:Int)))) ([]:List Int)) ++ d7.1 :: ([]:List Int)))):Int)) (gd ((0:Nat) + Int.toNat (wr .i64 ((↑(List.length x5):Int) - (1:Int))) < List.length (List.set d7.2.2.2.2.2.2.1 ((0:Nat) + Int.toNat (wr .i64 ((↑(List.length x5):Int) - (1:Int)))) (List.take (List.length (List.getD d7.2.2.2.2.2.2.1 ((0:Nat) + Int.toNat (wr .i64 ((↑(List.length x5):Int) - (1:Int)))) ([]:List Int))) (List.getD d7.2.2.2.2.2.2.1 ((0:Nat) + Int.toNat (wr .i64 ((↑(List.length x5):Int) - (1:Int)))) ([]:List Int)) ++ d7.1 :: ([]:List Int)))) (gd ((0:Nat) + Int.toNat (wr .i64 ((↑(List.length x5):Int) - (1:Int))) = (0:Nat) + Int.toNat (wr .i64 ((↑(List.length x5):Int) - (1:Int)))) (gd (Int.toNat (wr .i64 (g77c_c11 x5 d7 - (1:Int))) ≤ List.length (List.getD (List.set d7.2.2.2.2.2.2.1 ((0:Nat) + Int.toNat (wr .i64 ((↑(List.length x5):Int) - (1:Int)))) (List.take (List.length (List.getD d7.2.2.2.2.2.2.1 ((0:Nat) + Int.toNat (wr .i64 ((↑(List.length x5):Int) - (1:Int)))) ([]:List Int))) (List.getD d7.2.2.2.2.2.2.1 ((0:Nat) + Int.toNat (wr .i64 ((↑(List.length x5):Int) - (1:Int)))) ([]:List Int)) ++ d7.1 :: ([]:List Int))) ((0:Nat) + Int.toNat (wr .i64 ((↑(List.length x5):Int) - (1:Int)))) ([]:List Int))) (gd (¬List.length (List.set d7.2.2.2.2.2.1 ((0:Nat) + Int.toNat (wr .i64 (d7.1 - (1:Int)))) (g77c_c10 d7)) = (0:Nat)) (gd ((0:Int) ≤ wr .i64 (d7.1 - (1:Int)) ∧ wr .i64 (d7.1 - (1:Int)) < (↑(List.length (List.set d7.2.2.2.2.2.1 ((0:Nat) + Int.toNat (wr .i64 (d7.1 - (1:Int)))) (g77c_c10 d7))):Int)) (gd ((0:Nat) + Int.toNat (wr .i64 (d7.1 - (1:Int))) < List.length (List.set d7.2.2.2.2.2.1 ((0:Nat) + Int.toNat (wr .i64 (d7.1 - (1:Int)))) (g77c_c10 d7))) (gd ((0:Int) ≤ wr .i64 (d7.1 - (1:Int)) ∧ wr .i64 (d7.1 - (1:Int)) < (↑(List.length (List.set d7.2.2.2.2.2.1 ((0:Nat) + Int.toNat (wr .i64 (d7.1 - (1:Int)))) (g77c_c10 d7))):Int)) (gd ((0:Nat) + Int.toNat (wr .i64 (d7.1 - (1:Int))) < List.length (List.set d7.2.2.2.2.2.1 ((0:Nat) + Int.toNat (wr .i64 (d7.1 - (1:Int)))) (g77c_c10 d7))) (gd (List.length (List.set d7.2.2.2.2.2.1 ((0:Nat) + Int.toNat (wr .i64 (d7.1 - (1:Int)))) (g77c_c10 d7)) = List.length (List.set (List.set d7.2.2.2.2.2.1 ((0:Nat) + Int.toNat (wr .i64 (d7.1 - (1:Int)))) (g77c_c10 d7)) ((0:Nat) + Int.toNat (wr .i64 (d7.1 - (1:Int)))) (wr .i64 (g77c_c12 d7 + (1:Int))))) (gd (List.length (List.set d7.2.2.2.2.2.2.1 ((0:Nat) + Int.toNat (wr .i64 ((↑(List.length x5):Int) - (1:Int)))) (List.take (List.length (List.getD d7.2.2.2.2.2.2.1 ((0:Nat) + Int.toNat (wr .i64 ((↑(List.length x5):Int) - (1:Int)))) ([]:List Int))) (List.getD d7.2.2.2.2.2.2.1 ((0:Nat) + Int.toNat (wr .i64 ((↑(List.length x5):Int) - (1:Int)))) ([]:List Int)) ++ d7.1 :: ([]:List Int))) = List.length (List.set (List.set d7.2.2.2.2.2.2.1 ((0:Nat) + Int.toNat (wr .i64 ((↑(List.length x5):Int) - (1:Int)))) (List.take (List.length (List.getD d7.2.2.2.2.2.2.1 ((0:Nat) + Int.toNat (wr .i64 ((↑(List.length x5):Int) - (1:Int)))) ([]:List Int))) (List.getD d7.2.2.2.2.2.2.1 ((0:Nat) + Int.toNat (wr .i64 ((↑(List.length x5):Int) - (1:Int)))) ([]:List Int)) ++ d7.1 :: ([]:List Int))) ((0:Nat) + Int.toNat (wr .i64 ((↑(List.length x5):Int) - (1:Int)))) (List.take (Int.toNat (wr .i64 (g77c_c11 x5 d7 - (1:Int)))) (List.getD (List.set d7.2.2.2.2.2.2.1 ((0:Nat) + Int.toNat (wr .i64 ((↑(List.length x5):Int) - (1:Int)))) (List.take (List.length (List.getD d7.2.2.2.2.2.2.1 ((0:Nat) + Int.toNat (wr .i64 ((↑(List.length x5):Int) - (1:Int)))) ([]:List Int))) (List.getD d7.2.2.2.2.2.2.1 ((0:Nat) + Int.toNat (wr .i64 ((↑(List.length x5):Int) - (1:Int)))) ([]:List Int)) ++ d7.1 :: ([]:List Int))) ((0:Nat) + Int.toNat (wr .i64 ((↑(List.length x5):Int) - (1:Int)))) ([]:List Int))))) (some (Lp.go ((wr .i64 (d7.1 + (1:Int)),d7.2.1,d7.2.2.1,d7.2.2.2.1,d7.2.2.2.2.1 + filL d7.2.1 d7.2.2.1 d7.2.2.2.1 n (List.set d7.2.2.2.2.2.1 ((0:Nat) + Int.toNat (wr .i64 (d7.1 - (1:Int)))) (g77c_c10 d7)) (List.set d7.2.2.2.2.2.2.1 ((0:Nat) + Int.toNat (wr .i64 ((↑(List.length x5):Int) - (1:Int)))) (List.take (List.length (List.getD d7.2.2.2.2.2.2.1 ((0:Nat) + Int.toNat (wr .i64 ((↑(List.length x5):Int) - (1:Int)))) ([]:List Int))) (List.getD d7.2.2.2.2.2.2.1 ((0:Nat) + Int.toNat (wr .i64 ((↑(List.length x5):Int) - (1:Int)))) ([]:List Int)) ++ d7.1 :: ([]:List Int))),List.set (List.set d7.2.2.2.2.2.1 ((0:Nat) + Int.toNat (wr .i64 (d7.1 - (1:Int)))) (g77c_c10 d7)) ((0:Nat) + Int.toNat (wr .i64 (d7.1 - (1:Int)))) (wr .i64 (g77c_c12 d7 + (1:Int))),List.set (List.set d7.2.2.2.2.2.2.1 ((0:Nat) + Int.toNat (wr .i64 ((↑(List.length x5):Int) - (1:Int)))) (List.take (List.length (List.getD d7.2.2.2.2.2.2.1 ((0:Nat) + Int.toNat (wr .i64 ((↑(List.length x5):Int) - (1:Int)))) ([]:List Int))) (List.getD d7.2.2.2.2.2.2.1 ((0:Nat) + Int.toNat (wr .i64 ((↑(List.length x5):Int) - (1:Int)))) ([]:List Int)) ++ d7.1 :: ([]:List Int))) ((0:Nat) + Int.toNat (wr .i64 ((↑(List.length x5):Int) - (1:Int)))) (List.take (Int.toNat (wr .i64 (g77c_c11 x5 d7 - (1:Int)))) (List.getD (List.set d7.2.2.2.2.2.2.1 ((0:Nat) + Int.toNat (wr .i64 ((↑(List.length x5):Int) - (1:Int)))) (List.take (List.length (List.getD d7.2.2.2.2.2.2.1 ((0:Nat) + Int.toNat (wr .i64 ((↑(List.length x5):Int) - (1:Int)))) ([]:List Int))) (List.getD d7.2.2.2.2.2.2.1 ((0:Nat) + Int.toNat (wr .i64 ((↑(List.length x5):Int) - (1:Int)))) ([]:List Int)) ++ d7.1 :: ([]:List Int))) ((0:Nat) + Int.toNat (wr .i64 ((↑(List.length x5):Int) - (1:Int)))) ([]:List Int))),()) : Int × List Int × List Int × Int × Int × List Int × List (List Int) × Unit)))))))))))))))))))))))))))))))))))))) else gd (List.length d7.2.2.2.2.2.1 = List.length d7.2.2.2.2.2.1) (gd (List.length d7.2.2.2.2.2.2.1 = List.length d7.2.2.2.2.2.2.1) (some (Lp.out ((true,d7.2.1,d7.2.2.1,d7.2.2.2.1,d7.2.2.2.2.1,d7.2.2.2.2.2.1,d7.2.2.2.2.2.2.1,()) : Bool × List Int × List Int × Int × Int × List Int × List (List Int) × Unit))))) ((imax (1:Int) (wr .i64 (g77c_c2 x0 x5 + (1:Int))),x0,x1,x2,x3,x4,x5,()) : Int × List Int × List Int × Int × Int × List Int × List (List Int) × Unit))))))))))))))))))))))))))))
noncomputable def g77c_sh : List LSh:=LSh.mk3 (((0,TV.ref (0) (1:Nat) (0:Nat) (0:Nat)) : Nat × TV) :: ((1,TV.fn (109) (TV.cons (TV.ref (1) (1:Nat) (0:Nat) (0:Nat)) (TV.cons (TV.ref (2) (1:Nat) (0:Nat) (0:Nat)) TV.nil))) : Nat × TV) :: ((9,TV.v (Ty.int IntKind.i64)) : Nat × TV) :: ([] : List (Nat × TV))) (TB.cells (TV.v (Ty.slice (Ty.int IntKind.i64)) :: TV.v (Ty.slice (Ty.int IntKind.i64)) :: TV.slf (3) (1) :: TV.v (Ty.int IntKind.i64) :: TV.slf (5) (1) :: ([] : List TV)) :: TB.cells (TV.fn (116) TV.nil :: ([] : List TV)) :: TB.cells (TV.v (Ty.int IntKind.i64) :: ([] : List TV)) :: TB.arr (Ty.int IntKind.i64) true :: TB.dead :: TB.nest (Ty.int IntKind.i64) :: ([] : List TB)) (5) :: ([] : List LSh)
def eachL (inner outer m:List Int) : Int:=if wr .i64 (boxW outer - boxW inner) = boxW m then filL inner outer m.length 81 m [] else 0
noncomputable def con68c : SCon:=mkS 68 [.v LI,.v LI,.v LI,F109 0] (P68b 116) [] (P68b 116) (fun (inner outer m:List Int) (out:Int)=>[okIn inner outer m ∧ contB m = true ∧ 0 ≤ out ∧ out ≤ 1000000]) (fun (inner outer m:List Int) (out:Int)=>(out + eachL inner outer m,()))
noncomputable def g68c (x0 x1 x2:List Int) (x3:Int) : Option (Int × Unit):=gd (List.length x1 ≤ (1000:Nat)) (gd (List.length x0 ≤ (1000:Nat)) (gd (List.length x2 ≤ (1000:Nat)) (bif !ieq (wr .i64 (boxW x1 - boxW x0)) (boxW x2) then some ((x3,()) : Int × Unit) else gd ((0:Nat) ≤ (0:Nat)) (gd (((0:Nat) + List.length x2) * (8:Nat) ≤ (1099511627776:Nat)) (gd ((0:Nat) + List.length x2 = List.length x2) (gd ((0:Nat) = (0:Nat)) (gd (preB (81:Nat) x0 x1 x2 (↑(List.length x2):Int) ([]:List (List Int)) x3) (some ((x3 + filL x0 x1 (↑(List.length x2):Int) (81:Nat) x2 ([]:List (List Int)),()) : Int × Unit)))))))))
noncomputable def g68c_sh : List LSh:=([] : List LSh)
noncomputable def con71c : Con:=mkC 71 [.d LI,.d LI,.d LI,.fn 116 []] [I64] (fun (inner outer m:List Int)=>[okIn inner outer m ∧ contB m = true]) (fun (inner outer m:List Int)=>(eachL inner outer m,()))
noncomputable def g71c (x0 x1 x2:List Int) : Option (Int × Unit):=gd (okIn x0 x1 x2 ∧ contB x2 = true ∧ (0:Int) ≤ (0:Int) ∧ (0:Int) ≤ (1000000:Int)) (some (((0:Int) + eachL x0 x1 x2,()) : Int × Unit))
noncomputable def g71c_sh : List LSh:=([] : List LSh)
def insB (l c:List Int) : Bool:=(List.range l.length).all fun i=>decide (l.getD i 0 ≤ rowF c i)
noncomputable def con115 : Con:=mkC 115 [.d LI,.d LI] [.bool] (fun (l c:List Int)=>[l.length ≤ 1000 ∧ c.length ≤ 1000]) (fun (l c:List Int)=>(insB l c,()))
noncomputable def g115 (x0 x1:List Int) : Option (Bool × Unit):=whileO (fun (d2 : Int × Unit)=>bif ilt d2.1 (↑(List.length x0):Int) then gd ((0:Int) ≤ d2.1 ∧ d2.1 < (↑(List.length x0):Int)) (gd ((0:Int) ≤ d2.1 ∧ List.length x1 ≤ (1000:Nat)) (bif ilt (rowF x1 d2.1) (List.getD x0 (Int.toNat d2.1) (0:Int)) then some (Lp.out ((false,()) : Bool × Unit)) else some (Lp.go ((wr .i64 (d2.1 + (1:Int)),()) : Int × Unit)))) else some (Lp.out ((true,()) : Bool × Unit))) (((0:Int),()) : Int × Unit)
noncomputable def g115_sh : List LSh:=LSh.mk (((9,TV.v (Ty.int IntKind.i64)) : Nat × TV) :: ([] : List (Nat × TV))) ([] : List TB) :: ([] : List LSh)
def ruleF (a b c:List Int) : Int:=if insB a c = true then eachL a c b else 0
def sh3 (a b c:List Int) : Prop:=shapeB a = true ∧ shapeB b = true ∧ shapeB c = true
noncomputable def con96 : Con:=mkC 96 [.d LI,.d LI,.d LI] [I64] (fun (a b c:List Int)=>[sh3 a b c]) (fun (a b c:List Int)=>(ruleF a b c,()))
noncomputable def g96 (x0 x1 x2:List Int) : Option (Int × Unit):=gd (List.length x0 ≤ (1000:Nat) ∧ List.length x2 ≤ (1000:Nat)) (bif !insB x0 x2 then some (((0:Int),()) : Int × Unit) else gd (okIn x0 x2 x1 ∧ contB x1 = true) (some ((eachL x0 x2 x1,()) : Int × Unit)))
noncomputable def g96_sh : List LSh:=([] : List LSh)
abbrev TermT : Ty:=.prod LI (.prod I64 .unit)
abbrev TermD:=List Int × Int × Unit
noncomputable def con97l : SCon:=mkS 97 [.sl 0 1 0] [.arr I64 true] [.v LI] [.arr I64 true] (fun (n:Int) (xs:List Int)=>[0 ≤ n ∧ n ≤ 100000 ∧ n ≤ xs.length]) (fun (n:Int) (xs:List Int)=>(xs.take n.toNat,xs,()))
noncomputable def g97l (x0:Int) (x1:List Int) : Option (List Int × List Int × Unit):=Option.map id (eqO (Int.toNat x0 = (0:Nat)) (some ((([]:List Int),x1,()) : List Int × List Int × Unit)) (gd ((0:Nat) + Int.toNat x0 ≤ List.length x1) (gd ((0:Nat) ≤ (0:Nat)) (gd (((0:Nat) + List.length (List.take (Int.toNat x0) (List.drop (0:Nat) x1))) * (8:Nat) ≤ (1099511627776:Nat)) (gd ((0:Nat) + ((0:Nat) + List.length (List.take (Int.toNat x0) (List.drop (0:Nat) x1))) ≤ List.length (List.take (Int.toNat x0) (List.drop (0:Nat) x1))) (some ((List.take ((0:Nat) + List.length (List.take (Int.toNat x0) (List.drop (0:Nat) x1))) (List.drop (0:Nat) (List.take (Int.toNat x0) (List.drop (0:Nat) x1))),x1,()) : List Int × List Int × Unit)))))))
noncomputable def g97l_sh : List LSh:=([] : List LSh)
def termF (x y c:List Int) : List TermD:=if 0 < ruleF x y c then [(c,ruleF x y c,())] else []
abbrev F95 (j:Nat) : TV:=.fn 95 (.cons (.ref j 1 0 0) (.cons (.ref (j + 1) 1 0 0) (.cons (.ref (j + 2) 1 0 0) .nil)))
noncomputable def con95 : SCon:=mkS 95 [.sl 0 1 0,.ref 1 1 0 0,.ref 2 1 0 0,.ref 3 1 0 0] [.arr I64 true,.cells [.v LI],.cells [.v LI],.cells [.slf 4 2],.arr TermT true] [] [.arr I64 true,.cells [.v LI],.cells [.v LI],.cells [.slf 5 2],.dead,.arr TermT true] (fun (n:Int) (xs x y:List Int) (out : List TermD)=>[n = (xs.length:Int) ∧ n ≤ 8 ∧ sh3 x y xs ∧ out.length ≤ 1000]) (fun (n:Int) (xs x y:List Int) (out : List TermD)=>(xs,x,y,out ++ termF x y xs,()))
noncomputable def g95 (x0:Int) (x1 x2 x3:List Int) (x4 : List (List Int × Int × Unit)) : Option (List Int × List Int × List Int × List (List Int × Int × Unit) × Unit):=gd ((0:Nat) + Int.toNat x0 ≤ List.length x1) (gd (sh3 x2 x3 (List.take (Int.toNat x0) (List.drop (0:Nat) x1))) (bif ilt (0:Int) (ruleF x2 x3 (List.take (Int.toNat x0) (List.drop (0:Nat) x1))) then gd ((0:Int) ≤ (↑(Int.toNat x0):Int) ∧ (↑(Int.toNat x0):Int) ≤ (100000:Int) ∧ (↑(Int.toNat x0):Int) ≤ (↑(List.length x1):Int)) (gd (List.length x4 ≤ List.length x4) (gd ((List.length x4 + (1:Nat)) * (32:Nat) ≤ (1099511627776:Nat)) (gd (List.length x4 + (1:Nat) = List.length (List.take (List.length x4) x4 ++ ((List.take (Int.toNat x0) x1,ruleF x2 x3 (List.take (Int.toNat x0) (List.drop (0:Nat) x1)),()) : List Int × Int × Unit) :: ([] : List (List Int × Int × Unit)))) (some ((x1,x2,x3,List.take (List.length x4) x4 ++ ((List.take (Int.toNat x0) x1,ruleF x2 x3 (List.take (Int.toNat x0) (List.drop (0:Nat) x1)),()) : List Int × Int × Unit) :: ([] : List (List Int × Int × Unit)),()) : List Int × List Int × List Int × List (List Int × Int × Unit) × Unit))))) else gd (List.length x4 = List.length x4) (some ((x1,x2,x3,x4,()) : List Int × List Int × List Int × List (List Int × Int × Unit) × Unit))))
noncomputable def g95_sh : List LSh:=([] : List LSh)
def gsF : Nat → Int → Int → List Int → List (List Int)
  | 0,_,_,_=>[]
  | n + 1,left,most,l=>(if left = 0 then [l] else []) ++ catX (fun x=>gsF n (left - x) x (l ++ [x])) (min left most).toNat 1
def termsF (x y:List Int) (cs:List (List Int)) : List TermD:=cs.flatMap fun c=>termF x y c
def preT (n:Nat) (left most:Int) (l x y:List Int) (out : List TermD) : Prop:=0 ≤ left ∧ left < n ∧ 0 ≤ most ∧ most ≤ 8 ∧ (l.length:Int) + left ≤ 8 ∧ (∀ c ∈ gsF n left most l,sh3 x y c) ∧ out.length + (gsF n left most l).length ≤ 1000
def ms114 : List Nat:=(List.range 60).map (1000 + ·)
abbrev Q114 : List TB:=[.cells [F95 4],.cells [.slf 3 1],.cells [.fn 114 (.cons (.ref 0 1 0 0) (.cons (.ref 1 1 0 0) (.cons (.ref 2 1 0 0) .nil)))],.arr I64 true,.cells [.v LI],.cells [.v LI],.cells [.slf 7 2],.arr TermT true]
abbrev R114 : List TB:=[.cells [F95 4],.cells [.slf 8 1],.cells [.fn 114 (.cons (.ref 0 1 0 0) (.cons (.ref 1 1 0 0) (.cons (.ref 2 1 0 0) .nil)))],.dead,.cells [.v LI],.cells [.v LI],.cells [.slf 9 2],.dead,.arr I64 true,.arr TermT true]
noncomputable def con114 (n:Nat) : SCon:=mkS 114 [.v I64,.v I64,.ref 0 1 0 0,.ref 1 1 0 0,.ref 2 1 0 0] Q114 [] R114 (fun (left most:Int) (l x y:List Int) (out : List TermD)=>[preT n left most l x y out]) (fun (left most:Int) (l x y:List Int) (out : List TermD)=>(x,y,l,out ++ termsF x y (gsF n left most l),()))
noncomputable def g114 (n:Nat) (x0 x1:Int) (x2 x3 x4:List Int) (x5 : List (List Int × Int × Unit)) : Option (List Int × List Int × List Int × List (List Int × Int × Unit) × Unit):=bif ieq x0 (0:Int) then gd (List.length x5 = List.length x5) (gd ((↑(List.length x2):Int) = (↑(List.length x2):Int) ∧ (↑(List.length x2):Int) ≤ (8:Int) ∧ sh3 x3 x4 x2 ∧ List.length x5 ≤ (1000:Nat)) (gd (List.length x2 = List.length x2) (gd (List.length (x5 ++ termF x3 x4 x2) = List.length (x5 ++ termF x3 x4 x2)) (whileO (fun (d7 : Int × List Int × List Int × List Int × List (List Int × Int × Unit) × Unit)=>bif ile d7.1 (imin x0 x1) then gd (List.length d7.2.2.2.1 ≤ List.length d7.2.2.2.1) (gd ((List.length d7.2.2.2.1 + (1:Nat)) * (8:Nat) ≤ (1099511627776:Nat)) (gd (List.length d7.2.2.2.1 + (1:Nat) = List.length (List.take (List.length d7.2.2.2.1) d7.2.2.2.1 ++ d7.1 :: ([]:List Int))) (gd (List.length d7.2.2.2.2.1 = List.length d7.2.2.2.2.1) (gd (preT n (wr .i64 (x0 - d7.1)) d7.1 (List.take (List.length d7.2.2.2.1) d7.2.2.2.1 ++ d7.1 :: ([]:List Int)) d7.2.1 d7.2.2.1 d7.2.2.2.2.1) (gd ((0:Int) ≤ wr .i64 ((↑(List.length (List.take (List.length d7.2.2.2.1) d7.2.2.2.1 ++ d7.1 :: ([]:List Int))):Int) - (1:Int)) ∧ wr .i64 ((↑(List.length (List.take (List.length d7.2.2.2.1) d7.2.2.2.1 ++ d7.1 :: ([]:List Int))):Int) - (1:Int)) ≤ (↑(List.length (List.take (List.length d7.2.2.2.1) d7.2.2.2.1 ++ d7.1 :: ([]:List Int))):Int)) (gd (Int.toNat (wr .i64 ((↑(List.length (List.take (List.length d7.2.2.2.1) d7.2.2.2.1 ++ d7.1 :: ([]:List Int))):Int) - (1:Int))) = List.length (List.take (Int.toNat (wr .i64 ((↑(List.length (List.take (List.length d7.2.2.2.1) d7.2.2.2.1 ++ d7.1 :: ([]:List Int))):Int) - (1:Int)))) (List.take (List.length d7.2.2.2.1) d7.2.2.2.1 ++ d7.1 :: ([]:List Int)))) (gd (List.length (d7.2.2.2.2.1 ++ termsF d7.2.1 d7.2.2.1 (gsF n (wr .i64 (x0 - d7.1)) d7.1 (List.take (List.length d7.2.2.2.1) d7.2.2.2.1 ++ d7.1 :: ([]:List Int)))) = List.length (d7.2.2.2.2.1 ++ termsF d7.2.1 d7.2.2.1 (gsF n (wr .i64 (x0 - d7.1)) d7.1 (List.take (List.length d7.2.2.2.1) d7.2.2.2.1 ++ d7.1 :: ([]:List Int))))) (some (Lp.go ((wr .i64 (d7.1 + (1:Int)),d7.2.1,d7.2.2.1,List.take (Int.toNat (wr .i64 ((↑(List.length (List.take (List.length d7.2.2.2.1) d7.2.2.2.1 ++ d7.1 :: ([]:List Int))):Int) - (1:Int)))) (List.take (List.length d7.2.2.2.1) d7.2.2.2.1 ++ d7.1 :: ([]:List Int)),d7.2.2.2.2.1 ++ termsF d7.2.1 d7.2.2.1 (gsF n (wr .i64 (x0 - d7.1)) d7.1 (List.take (List.length d7.2.2.2.1) d7.2.2.2.1 ++ d7.1 :: ([]:List Int))),()) : Int × List Int × List Int × List Int × List (List Int × Int × Unit) × Unit)))))))))) else gd (List.length d7.2.2.2.1 = List.length d7.2.2.2.1) (gd (List.length d7.2.2.2.2.1 = List.length d7.2.2.2.2.1) (some (Lp.out ((d7.2.1,d7.2.2.1,d7.2.2.2.1,d7.2.2.2.2.1,()) : List Int × List Int × List Int × List (List Int × Int × Unit) × Unit))))) (((1:Int),x3,x4,x2,x5 ++ termF x3 x4 x2,()) : Int × List Int × List Int × List Int × List (List Int × Int × Unit) × Unit))))) else gd (List.length x2 = List.length x2) (gd (List.length x5 = List.length x5) (whileO (fun (d7 : Int × List Int × List Int × List Int × List (List Int × Int × Unit) × Unit)=>bif ile d7.1 (imin x0 x1) then gd (List.length d7.2.2.2.1 ≤ List.length d7.2.2.2.1) (gd ((List.length d7.2.2.2.1 + (1:Nat)) * (8:Nat) ≤ (1099511627776:Nat)) (gd (List.length d7.2.2.2.1 + (1:Nat) = List.length (List.take (List.length d7.2.2.2.1) d7.2.2.2.1 ++ d7.1 :: ([]:List Int))) (gd (List.length d7.2.2.2.2.1 = List.length d7.2.2.2.2.1) (gd (preT n (wr .i64 (x0 - d7.1)) d7.1 (List.take (List.length d7.2.2.2.1) d7.2.2.2.1 ++ d7.1 :: ([]:List Int)) d7.2.1 d7.2.2.1 d7.2.2.2.2.1) (gd ((0:Int) ≤ wr .i64 ((↑(List.length (List.take (List.length d7.2.2.2.1) d7.2.2.2.1 ++ d7.1 :: ([]:List Int))):Int) - (1:Int)) ∧ wr .i64 ((↑(List.length (List.take (List.length d7.2.2.2.1) d7.2.2.2.1 ++ d7.1 :: ([]:List Int))):Int) - (1:Int)) ≤ (↑(List.length (List.take (List.length d7.2.2.2.1) d7.2.2.2.1 ++ d7.1 :: ([]:List Int))):Int)) (gd (Int.toNat (wr .i64 ((↑(List.length (List.take (List.length d7.2.2.2.1) d7.2.2.2.1 ++ d7.1 :: ([]:List Int))):Int) - (1:Int))) = List.length (List.take (Int.toNat (wr .i64 ((↑(List.length (List.take (List.length d7.2.2.2.1) d7.2.2.2.1 ++ d7.1 :: ([]:List Int))):Int) - (1:Int)))) (List.take (List.length d7.2.2.2.1) d7.2.2.2.1 ++ d7.1 :: ([]:List Int)))) (gd (List.length (d7.2.2.2.2.1 ++ termsF d7.2.1 d7.2.2.1 (gsF n (wr .i64 (x0 - d7.1)) d7.1 (List.take (List.length d7.2.2.2.1) d7.2.2.2.1 ++ d7.1 :: ([]:List Int)))) = List.length (d7.2.2.2.2.1 ++ termsF d7.2.1 d7.2.2.1 (gsF n (wr .i64 (x0 - d7.1)) d7.1 (List.take (List.length d7.2.2.2.1) d7.2.2.2.1 ++ d7.1 :: ([]:List Int))))) (some (Lp.go ((wr .i64 (d7.1 + (1:Int)),d7.2.1,d7.2.2.1,List.take (Int.toNat (wr .i64 ((↑(List.length (List.take (List.length d7.2.2.2.1) d7.2.2.2.1 ++ d7.1 :: ([]:List Int))):Int) - (1:Int)))) (List.take (List.length d7.2.2.2.1) d7.2.2.2.1 ++ d7.1 :: ([]:List Int)),d7.2.2.2.2.1 ++ termsF d7.2.1 d7.2.2.1 (gsF n (wr .i64 (x0 - d7.1)) d7.1 (List.take (List.length d7.2.2.2.1) d7.2.2.2.1 ++ d7.1 :: ([]:List Int))),()) : Int × List Int × List Int × List Int × List (List Int × Int × Unit) × Unit)))))))))) else gd (List.length d7.2.2.2.1 = List.length d7.2.2.2.1) (gd (List.length d7.2.2.2.2.1 = List.length d7.2.2.2.2.1) (some (Lp.out ((d7.2.1,d7.2.2.1,d7.2.2.2.1,d7.2.2.2.2.1,()) : List Int × List Int × List Int × List (List Int × Int × Unit) × Unit))))) (((1:Int),x3,x4,x2,x5,()) : Int × List Int × List Int × List Int × List (List Int × Int × Unit) × Unit)))
noncomputable def g114_sh : List LSh:=LSh.mk3 (((3,TV.ref (1) (1:Nat) (0:Nat) (0:Nat)) : Nat × TV) :: ((4,TV.ref (2) (1:Nat) (0:Nat) (0:Nat)) : Nat × TV) :: ((7,TV.v (Ty.int IntKind.i64)) : Nat × TV) :: ([] : List (Nat × TV))) (TB.cells (TV.fn (95) (TV.cons (TV.ref (4) (1:Nat) (0:Nat) (0:Nat)) (TV.cons (TV.ref (5) (1:Nat) (0:Nat) (0:Nat)) (TV.cons (TV.ref (6) (1:Nat) (0:Nat) (0:Nat)) TV.nil))) :: ([] : List TV)) :: TB.cells (TV.slf (8) (1) :: ([] : List TV)) :: TB.cells (TV.fn (114) (TV.cons (TV.ref (0) (1:Nat) (0:Nat) (0:Nat)) (TV.cons (TV.ref (1) (1:Nat) (0:Nat) (0:Nat)) (TV.cons (TV.ref (2) (1:Nat) (0:Nat) (0:Nat)) TV.nil))) :: ([] : List TV)) :: TB.dead :: TB.cells (TV.v (Ty.slice (Ty.int IntKind.i64)) :: ([] : List TV)) :: TB.cells (TV.v (Ty.slice (Ty.int IntKind.i64)) :: ([] : List TV)) :: TB.cells (TV.slf (9) (2) :: ([] : List TV)) :: TB.dead :: TB.arr (Ty.int IntKind.i64) true :: TB.arr (Ty.prod (Ty.slice (Ty.int IntKind.i64)) (Ty.prod (Ty.int IntKind.i64) Ty.unit)) true :: ([] : List TB)) (8) :: ([] : List LSh)
abbrev Q94 : List TB:=[.cells [.v LI],.cells [.v LI],.cells [.slf 3 2],.arr TermT true]
abbrev R94 : List TB:=[.cells [.v LI],.cells [.v LI],.cells [.slf 4 2],.dead,.arr TermT true]
noncomputable def con94 : SCon:=mkS 94 [.v I64,F95 0] Q94 [] R94 (fun (n:Int) (x y:List Int) (out : List TermD)=>[preT 9 n n [] x y out]) (fun (n:Int) (x y:List Int) (out : List TermD)=>(x,y,out ++ termsF x y (gsF 9 n n []),()))
noncomputable def g94 (x0:Int) (x1 x2:List Int) (x3 : List (List Int × Int × Unit)) : Option (List Int × List Int × List (List Int × Int × Unit) × Unit):=gd ((0:Nat) = (0:Nat)) (gd (List.length x3 = List.length x3) (gd (preT (9:Nat) x0 x0 ([]:List Int) x1 x2 x3) (gd (List.length (x3 ++ termsF x1 x2 (gsF (9:Nat) x0 x0 ([]:List Int))) = List.length (x3 ++ termsF x1 x2 (gsF (9:Nat) x0 x0 ([]:List Int)))) (some ((x1,x2,x3 ++ termsF x1 x2 (gsF (9:Nat) x0 x0 ([]:List Int)),()) : List Int × List Int × List (List Int × Int × Unit) × Unit)))))
noncomputable def g94_sh : List LSh:=([] : List LSh)
def prodF (a b:List Int) : List TermD × Int × Unit:=if shapeB a = true ∧ shapeB b = true then (if 8 < boxW a + boxW b then ([],6,()) else (termsF a b (gsF 9 (boxW a + boxW b) (boxW a + boxW b) []),0,())) else ([],2,())
noncomputable def con52 : Con:=mkC 52 [.d LI,.d LI] [.slice TermT,I64] (fun (a b:List Int)=>[a.length ≤ 1000 ∧ b.length ≤ 1000]) (fun (a b:List Int)=>prodF a b)
noncomputable def g52 (x0 x1:List Int) : Option (List (List Int × Int × Unit) × Int × Unit):=gd (List.length x0 ≤ (1000:Nat)) (gd ((!!shapeB x0) = true → (!!shapeB x0) = true ∧ List.length x1 ≤ (1000:Nat)) (gd ((!!shapeB x0) = true → (!!shapeB x0) = true) (gd ((!shapeB x0) = false → (!!shapeB x0) = true) (bif bif !shapeB x0 then true else !shapeB x1 then some ((([] : List (List Int × Int × Unit)),(2:Int),()) : List (List Int × Int × Unit) × Int × Unit) else gd (List.length x0 ≤ (1000:Nat)) (gd (List.length x1 ≤ (1000:Nat)) (bif ilt (8:Int) (wr .i64 (boxW x0 + boxW x1)) then some ((([] : List (List Int × Int × Unit)),(6:Int),()) : List (List Int × Int × Unit) × Int × Unit) else gd (List.length x0 ≤ (1000:Nat)) (gd (List.length x1 ≤ (1000:Nat)) (gd ((0:Nat) = (0:Nat)) (gd (preT (9:Nat) (wr .i64 (boxW x0 + boxW x1)) (wr .i64 (boxW x0 + boxW x1)) ([]:List Int) x0 x1 ([] : List (List Int × Int × Unit))) (gd ((0:Nat) + List.length (termsF x0 x1 (gsF (9:Nat) (wr .i64 (boxW x0 + boxW x1)) (wr .i64 (boxW x0 + boxW x1)) ([]:List Int))) ≤ List.length (termsF x0 x1 (gsF (9:Nat) (wr .i64 (boxW x0 + boxW x1)) (wr .i64 (boxW x0 + boxW x1)) ([]:List Int)))) (some ((List.take (List.length (termsF x0 x1 (gsF (9:Nat) (wr .i64 (boxW x0 + boxW x1)) (wr .i64 (boxW x0 + boxW x1)) ([]:List Int)))) (List.drop (0:Nat) (termsF x0 x1 (gsF (9:Nat) (wr .i64 (boxW x0 + boxW x1)) (wr .i64 (boxW x0 + boxW x1)) ([]:List Int)))),(0:Int),()) : List (List Int × Int × Unit) × Int × Unit))))))))))))
noncomputable def g52_sh : List LSh:=([] : List LSh)
end Go.Schur
namespace Go.Schur
open Go Go.Ab Go.Proofs
def grd (T:List (List Int)) (i j:Int) : Int:=(T.getD i.toNat []).getD j.toNat 0
def stopX (a b:List Int) (grid:List (List Int)) (came:List Int) (i j gone x:Int) : Bool :=
  decide (came.getD (x - 1).toNat 0 = b.getD (x - 1).toNat 0) || (decide (1 < x) && decide (came.getD (x - 2).toNat 0 < came.getD (x - 1).toNat 0 + 1)) ||
  (decide (0 < gone) && decide (grd grid i (j + 1) < x)) || (decide (0 < i) && (decide (rowF a (i - 1) ≤ j) && decide (x ≤ grd grid (i - 1) j)))
def sumX (g : Int → Int) : Nat → Int → Int
  | 0,_=>0
  | c + 1,x=>g x + sumX g c (x + 1)
def refU (a b c:List Int) : Nat → List (List Int) → List Int → Int → Int → Int
  | 0,_,_,_,_=>0
  | n + 1,grid,came,i,gone =>
    if i = c.length then 1 else
    if c.getD i.toNat 0 - 1 - gone < rowF a i then refU a b c n grid came (i + 1) 0 else
    sumX (fun x=>if stopX a b grid came i (c.getD i.toNat 0 - 1 - gone) gone x = true then 0 else
      refU a b c n (grid.set i.toNat ((grid.getD i.toNat []).set (c.getD i.toNat 0 - 1 - gone).toNat x)) (came.set (x - 1).toNat (came.getD (x - 1).toNat 0 + 1)) i (gone + 1)) b.length 1
structure preU (n:Nat) (a b c:List Int) (grid:List (List Int)) (came:List Int) (i gone:Int) : Prop where
  al : a.length ≤ 8
  bl : b.length ≤ 8
  cl : c.length ≤ 8
  a0 : ∀ k : Nat,0 ≤ rowF a k
  ac : ∀ k : Nat,rowF a k ≤ rowF c k
  c8 : ∀ k : Nat,rowF c k ≤ 8
  cd : ∀ k : Nat,rowF c (k + 1:Nat) ≤ rowF c k
  b8 : ∀ x ∈ b,0 ≤ x ∧ x ≤ 8
  ml : came.length = b.length
  m8 : ∀ k : Nat,0 ≤ came.getD k 0 ∧ came.getD k 0 ≤ b.getD k 0
  gl : grid.length = c.length
  gr : ∀ k : Nat,((grid.getD k []).length:Int) = rowF c k
  i0 : 0 ≤ i ∧ i ≤ c.length
  g0 : 0 ≤ gone ∧ (i < c.length → gone ≤ c.getD i.toNat 0 - rowF a i)
  mu : 10 * (c.length - i.toNat) + (8 - gone.toNat) < n
def grid0 (c:List Int) : List (List Int):=c.map fun x=>List.replicate x.toNat 0
def refR (a b c:List Int) : Int:=if boxW a + boxW b = boxW c ∧ insB a c = true then refU a b c 100 (grid0 c) (List.replicate b.length 0) 0 0 else 0
end Go.Schur
namespace Go.Schur
open Go Go.Ab Go.Proofs Go.RowKit Go.Shelf
theorem getD_setI {l : List Int} {i j : Nat} {v : Int} (h : i < l.length) : (l.set i v).getD j 0 = if i = j then v else l.getD j 0:=by
  simp only [List.getD_eq_getElem?_getD]
  by_cases e : i = j
  · subst e;rw [List.getElem?_set_self h,if_pos rfl];rfl
  · rw [List.getElem?_set_ne e,if_neg e]
theorem ltS_eq {L : List Int} {x : Int} (h1 : 1 ≤ x) (h8 : x ≤ 8) (hL : L.length = 9) (hb : -1000 ≤ L.getD x.toNat 0 ∧ L.getD x.toNat 0 ≤ 1000) :
    ltS L x = if 1 < x ∧ L.getD (x - 1).toNat 0 < L.getD x.toNat 0 + 1 then none else some (L.set x.toNat (L.getD x.toNat 0 + 1)):=by
  have hw : wrap64 (L.getD x.toNat 0 + 1) = L.getD x.toNat 0 + 1:=by unfold wrap64;omega
  unfold ltS
  simp only [hw,getD_setI (show x.toNat < L.length by omega),if_neg (show ¬ x.toNat = (x - 1).toNat by omega),if_true]
theorem ltR_app : ∀ {l m c : List Int},ltR c (l ++ m) = (ltR c l).bind fun c=>ltR c m
  | [],m,c=>rfl
  | x :: l,m,c=>by
    rw [List.cons_append,ltR,ltR]
    cases ltS c x with
    | none=>rfl
    | some d=>exact ltR_app
def refZ (a b c:List Int) : Nat → List (List Int) → List Int → List Int → List (List (List Int))
  | 0,_,_,_=>[]
  | n + 1,R,s,came =>
    if R.length = c.length then [R] else
    if c.getD R.length 0 - 1 - s.length < rowF a R.length then refZ a b c n (R ++ [s]) [] came else
    catX (fun x=>if came.getD (x - 1).toNat 0 = b.getD (x - 1).toNat 0 ∨ (1 < x ∧ came.getD (x - 2).toNat 0 < came.getD (x - 1).toNat 0 + 1) ∨ (s ≠ [] ∧ s.headD 0 < x) ∨ x ≤ atF a R ((R.length:Int) - 1) (c.getD R.length 0 - 1 - s.length) then []
      else refZ a b c n R (x :: s) (came.set (x - 1).toNat (came.getD (x - 1).toNat 0 + 1))) b.length 1
structure StS (a b c:List Int) (R:List (List Int)) (s came:List Int) : Prop where
  bl : b.length ≤ 8
  b8 : ∀ k : Nat,0 ≤ b.getD k 0 ∧ b.getD k 0 ≤ 8
  ac : ∀ k : Nat,0 ≤ rowF a k ∧ rowF a k ≤ rowF c k ∧ rowF c k ≤ 8
  len : R.length ≤ c.length
  fin : R.length = c.length → s = []
  row : ∀ k : Nat,k < R.length → rowF a k + ((R.getD k []).length:Int) = rowF c k
  sl : R.length < c.length → (s.length:Int) ≤ rowF c R.length - rowF a R.length
  ent : ∀ r ∈ R,∀ x ∈ r,1 ≤ x ∧ x ≤ b.length
  ens : ∀ x ∈ s,1 ≤ x ∧ x ≤ b.length
  ord : Ord a R
  srt : s.Pairwise (· ≤ ·)
  abv : ∀ t : Nat,t < s.length → atF a R ((R.length:Int) - 1) (rowF c R.length - s.length + t) < s.getD t 0
  ml : came.length = b.length
  cam : ∀ x : Int,1 ≤ x → x ≤ b.length → came.getD (x - 1).toNat 0 = (cnt x R:Int) + s.count x
  cle : ∀ x : Int,1 ≤ x → x ≤ b.length → came.getD (x - 1).toNat 0 ≤ b.getD (x - 1).toNat 0
  lat : ∃ L,((ltA R).bind fun c=>ltR c s.reverse) = some L ∧ L.length = 9 ∧ ∀ x : Int,1 ≤ x → x ≤ b.length → L.getD x.toNat 0 = came.getD (x - 1).toNat 0
def GoS (c:List Int) (R:List (List Int)) (s:List Int) (T:List (List Int)) : Prop:=(R.length = c.length ∧ T = R) ∨ (R.length < c.length ∧ ∃ p U,T = R ++ (p ++ s) :: U)
def Full (a b c:List Int) (T:List (List Int)) : Prop:=Tab a c b.length T ∧ (∀ x : Int,1 ≤ x → x ≤ b.length → (cnt x T:Int) = b.getD (x - 1).toNat 0) ∧ (ltA T).isSome = true
theorem rowF_natD {l : List Int} {k : Nat} : rowF l k = l.getD k 0:=by unfold rowF;rw [if_neg (by omega),Int.toNat_natCast]
theorem ord_row {a c : List Int} {R : List (List Int)} {s : List Int} (h : Ord a R) (hs : s.Pairwise (· ≤ ·)) (hl : rowF a R.length + s.length = rowF c R.length)
    (ha : ∀ t : Nat,t < s.length → atF a R ((R.length:Int) - 1) (rowF c R.length - s.length + t) < s.getD t 0) : Ord a (R ++ [s]):=by
  intro i j hi hj
  simp only [List.length_append,List.length_cons,List.length_nil] at hi
  by_cases e : i = R.length
  · subst e
    rw [getD_app] at hj ⊢
    refine ⟨fun h0=>?_,fun h0=>?_⟩
    · have:=List.pairwise_iff_getElem.1 hs (j - 1) j (by omega) hj (by omega)
      simpa [List.getD_eq_getElem?_getD,List.getElem?_eq_getElem hj,List.getElem?_eq_getElem (show j - 1 < s.length by omega)] using this
    · have h1:=ha j hj
      rw [show rowF c R.length - s.length + (j:Int) = rowF a R.length + j by omega] at h1
      rw [atF_congr (T':=R) (getD_app_lt _ _ _ (by omega))]
      exact h1
  · have hlt : i < R.length:=by omega
    rw [getD_app_lt _ _ _ hlt] at hj ⊢
    obtain ⟨h1,h2⟩:=h i j hlt hj
    refine ⟨h1,fun h0=>?_⟩
    rw [atF_congr (T':=R) (getD_app_lt _ _ _ (by omega))]
    exact h2 h0
def sumQ (f : Nat → Int) : Nat → Int
  | 0=>0
  | n + 1=>sumQ f n + f n
theorem sumQ_congr {f g : Nat → Int} : ∀ {n : Nat},(∀ k,k < n → f k = g k) → sumQ f n = sumQ g n
  | 0,_=>rfl
  | n + 1,h=>by rw [sumQ,sumQ,sumQ_congr fun k hk=>h k (by omega),h n (by omega)]
theorem sumQ_add {f g : Nat → Int} : ∀ {n : Nat},sumQ (fun k=>f k + g k) n = sumQ f n + sumQ g n
  | 0=>rfl
  | n + 1=>by rw [sumQ,sumQ,sumQ,sumQ_add];omega
theorem sumQ_ind {j : Nat} : ∀ {n : Nat},sumQ (fun k=>if k = j then 1 else 0) n = if j < n then 1 else 0
  | 0=>rfl
  | n + 1=>by
    rw [sumQ,sumQ_ind]
    by_cases h : n = j
    · subst h;simp
    · rw [if_neg h]
      by_cases h2 : j < n
      · rw [if_pos h2,if_pos (by omega)];rfl
      · rw [if_neg h2,if_neg (by omega)];rfl
theorem sumQ_zero : ∀ {n : Nat},sumQ (fun _=>0) n = 0
  | 0=>rfl
  | n + 1=>by rw [sumQ,sumQ_zero];rfl
theorem len_count {M : Nat} : ∀ {l : List Int},(∀ x ∈ l,1 ≤ x ∧ x ≤ (M:Int)) → (l.length:Int) = sumQ (fun k=>(l.count ((k:Int) + 1):Nat)) M
  | [],_=>by simp [sumQ_zero]
  | y :: l,h=>by
    have hy:=h y (List.mem_cons_self ..)
    have ih:=len_count (l:=l) fun x hx=>h x (List.mem_cons_of_mem _ hx)
    have e : sumQ (fun k=>((y :: l).count ((k:Int) + 1):Nat)) M = sumQ (fun k=>((l.count ((k:Int) + 1):Nat):Int) + if k = (y - 1).toNat then 1 else 0) M:=by
      refine sumQ_congr fun k _=>?_
      rw [List.count_cons]
      by_cases hk : k = (y - 1).toNat
      · have : (y == (k:Int) + 1) = true:=by rw [beq_iff_eq];omega
        rw [if_pos hk,this];simp
      · have : (y == (k:Int) + 1) = false:=by rw [beq_eq_false_iff_ne];omega
        rw [if_neg hk,this];simp
    rw [e,sumQ_add,sumQ_ind,if_pos (by omega),← ih,List.length_cons];omega
theorem sumQ_le_eq {f g : Nat → Int} : ∀ {n : Nat},(∀ k,k < n → f k ≤ g k) → sumQ f n = sumQ g n → ∀ k,k < n → f k = g k
  | 0,_,_,k,hk=>by omega
  | n + 1,h,hs,k,hk=>by
    have hle : sumQ f n ≤ sumQ g n:=by
      clear hs hk
      induction n with
      | zero=>exact Int.le_refl _
      | succ n ih=>have h1:=ih fun k hk=>h k (by omega);have:=h n (by omega);rw [sumQ,sumQ];omega
    rw [sumQ,sumQ] at hs
    have:=h n (by omega)
    by_cases e : k = n
    · subst e;omega
    · exact sumQ_le_eq (n:=n) (fun k hk=>h k (by omega)) (by omega) k (by omega)
theorem count_pre {R : List (List Int)} {p s : List Int} {U : List (List Int)} {x : Int} : cnt x (R ++ (p ++ s) :: U) = cnt x R + p.count x + s.count x + cnt x U:=by
  simp [cnt,List.count_append];omega
theorem lt_pre {R U : List (List Int)} {r : List Int} (h : (ltA (R ++ r :: U)).isSome = true) : ((ltA R).bind fun c=>ltR c r.reverse).isSome = true:=by
  rw [← ltA_snoc]
  cases hx : ltA (R ++ [r]) with
  | some L=>rfl
  | none =>
    have:=ltA_pre (rest:=U) hx
    rw [List.append_assoc,List.cons_append,List.nil_append] at this
    rw [this] at h;cases h
section
variable {a b c : List Int} {R : List (List Int)} {s came : List Int}
theorem StS.close (h : StS a b c R s came) (hlt : R.length < c.length) (hl : rowF a R.length + s.length = rowF c R.length) : StS a b c (R ++ [s]) [] came where
  bl:=h.bl
  b8:=h.b8
  ac:=h.ac
  len:=by simp;omega
  fin:=fun _=>rfl
  row:=fun k hk=>by
    simp only [List.length_append,List.length_cons,List.length_nil] at hk
    by_cases e : k = R.length
    · subst e;rw [getD_app];exact hl
    · rw [getD_app_lt _ _ _ (by omega)];exact h.row k (by omega)
  sl:=fun hl2=>by
    have:=h.ac (R ++ [s]).length
    simp only [List.length_nil];omega
  ent:=fun r hr=>by
    rcases List.mem_append.1 hr with h1 | h1
    · exact h.ent r h1
    · rw [List.mem_singleton.1 h1];exact h.ens
  ens:=fun x hx=>nomatch hx
  ord:=ord_row h.ord h.srt hl h.abv
  srt:=List.Pairwise.nil
  abv:=fun t ht=>by simp at ht
  ml:=h.ml
  cam:=fun x h1 h2=>by
    rw [h.cam x h1 h2]
    simp [cnt,List.count_append]
  cle:=h.cle
  lat:=by
    obtain ⟨L,h1,h2,h3⟩:=h.lat
    exact ⟨L,by rw [ltA_snoc,h1];rfl,h2,h3⟩
theorem StS.push {x : Int} (h : StS a b c R s came) (h1 : 1 ≤ x) (hx : x ≤ b.length) (hsl : R.length < c.length ∧ (s.length:Int) + 1 ≤ rowF c R.length - rowF a R.length)
    (n1 : came.getD (x - 1).toNat 0 ≠ b.getD (x - 1).toNat 0) (n2 : ¬ (1 < x ∧ came.getD (x - 2).toNat 0 < came.getD (x - 1).toNat 0 + 1)) (n3 : ¬ (s ≠ [] ∧ s.headD 0 < x))
    (n4 : ¬ x ≤ atF a R ((R.length:Int) - 1) (c.getD R.length 0 - 1 - s.length)) : StS a b c R (x :: s) (came.set (x - 1).toNat (came.getD (x - 1).toNat 0 + 1)):=by
  have hbl:=h.bl
  have hml:=h.ml
  refine { h with fin:=fun e=>?_,sl:=fun _=>?_,ens:=?_,srt:=?_,abv:=?_,ml:=?_,cam:=?_,cle:=?_,lat:=?_ }
  · omega
  · simp only [List.length_cons];omega
  · intro y hy
    rcases List.mem_cons.1 hy with rfl | hy
    · exact ⟨h1,hx⟩
    · exact h.ens y hy
  · refine List.pairwise_cons.2 ⟨fun y hy=>?_,h.srt⟩
    cases s with
    | nil=>cases hy
    | cons z s =>
      have hz : x ≤ z:=by
        rcases Int.lt_or_le z x with h3 | h3
        · exact absurd ⟨by simp,h3⟩ n3
        · exact h3
      rcases List.mem_cons.1 hy with rfl | hy
      · exact hz
      · exact Int.le_trans hz ((List.pairwise_cons.1 h.srt).1 y hy)
  · intro t ht
    cases t with
    | zero =>
      rw [rowF_natD]
      simp only [List.length_cons,List.getD_cons_zero]
      rw [show c.getD R.length 0 - ((s.length + 1:Nat):Int) + ((0:Nat):Int) = c.getD R.length 0 - 1 - s.length by omega]
      omega
    | succ t =>
      have:=h.abv t (by simpa using ht)
      simp only [List.length_cons,List.getD_cons_succ]
      rw [show rowF c R.length - ((s.length + 1:Nat):Int) + ((t + 1:Nat):Int) = rowF c R.length - s.length + t by omega]
      exact this
  · rw [List.length_set];exact h.ml
  · intro y hy1 hy2
    rw [getD_setI (by omega),List.count_cons]
    by_cases e : y = x
    · subst e
      rw [if_pos rfl,h.cam y hy1 hy2];simp;omega
    · have : (x == y) = false:=by rw [beq_eq_false_iff_ne];exact fun h=>e h.symm
      rw [if_neg (by omega),h.cam y hy1 hy2,this];simp
  · intro y hy1 hy2
    rw [getD_setI (by omega)]
    have:=h.cle y hy1 hy2
    by_cases e : y = x
    · subst e;rw [if_pos rfl];omega
    · rw [if_neg (by omega)];exact this
  · obtain ⟨L,g1,g2,g3⟩:=h.lat
    have hLx:=g3 x h1 hx
    have hc0:=h.cam x h1 hx
    have hcl:=h.cle x h1 hx
    have hb8:=h.b8 (x - 1).toNat
    refine ⟨L.set x.toNat (L.getD x.toNat 0 + 1),?_,by rw [List.length_set];exact g2,fun y hy1 hy2=>?_⟩
    · have e1 : (fun c => ltR c (x :: s).reverse) = fun c => (ltR c s.reverse).bind fun d => ltS d x := by
        funext d;rw [List.reverse_cons,ltR_snoc]
      rw [e1,← Option.bind_assoc,g1]
      show ltS L x = _
      rw [ltS_eq h1 (by omega) g2 (by omega),if_neg]
      rintro ⟨k1,k2⟩
      apply n2
      refine ⟨k1,?_⟩
      have:=g3 (x - 1) (by omega) (by omega)
      rw [show x - 1 - 1 = x - 2 by omega] at this
      rw [← this,← hLx];exact k2
    · rw [getD_setI (by omega),getD_setI (by omega)]
      by_cases e : y = x
      · subst e;rw [if_pos rfl,if_pos rfl,hLx]
      · rw [if_neg (by omega),if_neg (by omega)];exact g3 y hy1 hy2
end
theorem row_at {R U : List (List Int)} {r : List Int} : (R ++ r :: U).getD R.length [] = r:=getD_mid R U r []
theorem mem_row {R U : List (List Int)} {r : List Int} : r ∈ R ++ r :: U:=by simp
theorem getD_cat {p s : List Int} {j : Nat} (h : p.length ≤ j) : (p ++ s).getD j 0 = s.getD (j - p.length) 0:=by
  simp [List.getD_eq_getElem?_getD,List.getElem?_append_right h]
theorem refZ_iff {a b c : List Int} (htot : ∀ T, Tab a c b.length T → (T.flatten.length:Int) = sumQ (fun k => b.getD k 0) b.length) {T : List (List Int)} :
    ∀ {n : Nat} {R : List (List Int)} {s came : List Int},StS a b c R s came → 10 * (c.length - R.length) + (8 - s.length) < n → (T ∈ refZ a b c n R s came ↔ Full a b c T ∧ GoS c R s T)
  | 0,R,s,came,h,hm=>by omega
  | n + 1,R,s,came,h,hm=>by
    rw [refZ]
    by_cases hR : R.length = c.length
    · rw [if_pos hR,List.mem_singleton]
      have hs:=h.fin hR
      subst hs
      have hT : Tab a c b.length R:=⟨hR,h.row,h.ent,h.ord⟩
      constructor
      · rintro rfl
        refine ⟨⟨hT,?_,?_⟩,.inl ⟨hR,rfl⟩⟩
        · have he : ∀ x ∈ T.flatten, 1 ≤ x ∧ x ≤ (b.length:Int) := fun x hx => by
            obtain ⟨r,hr,hxr⟩:=List.mem_flatten.1 hx
            exact h.ent r hr x hxr
          have h1:=(len_count he).symm.trans (htot T hT)
          have h2:=sumQ_le_eq (f:=fun k=>((T.flatten.count ((k:Int) + 1):Nat):Int)) (fun k hk=>?_) h1
          · intro x hx1 hx2
            have h3:=h2 (x - 1).toNat (by omega)
            rw [show (((x - 1).toNat:Nat):Int) + 1 = x by omega] at h3
            exact h3
          · have h3:=h.cam ((k:Int) + 1) (by omega) (by omega)
            have h4:=h.cle ((k:Int) + 1) (by omega) (by omega)
            rw [show ((k:Int) + 1 - 1).toNat = k by omega] at h3 h4
            rw [h3] at h4
            simpa [cnt] using h4
        · obtain ⟨L,h1,_⟩:=h.lat
          cases hx : ltA T with
          | none=>rw [hx] at h1;cases h1
          | some d=>rfl
      · rintro ⟨_,hg⟩
        rcases hg with ⟨_,hg⟩ | ⟨hg,_⟩
        · exact hg
        · omega
    · rw [if_neg hR]
      have hlt : R.length < c.length:=by have:=h.len;omega
      have hsl:=h.sl hlt
      have hac:=h.ac R.length
      have hg : ∀ T : List (List Int),GoS c R s T ↔ ∃ p U,T = R ++ (p ++ s) :: U:=fun T=>⟨fun h=>by
        rcases h with ⟨h,_⟩ | ⟨_,h⟩
        · omega
        · exact h,fun h=>.inr ⟨hlt,h⟩⟩
      rw [← rowF_natD]
      by_cases hc : rowF c R.length - 1 - s.length < rowF a R.length
      · rw [if_pos hc]
        have hl : rowF a R.length + s.length = rowF c R.length:=by omega
        rw [refZ_iff htot (h.close hlt hl) (by simp only [List.length_append,List.length_cons,List.length_nil];omega),hg]
        refine and_congr_right fun hT=>?_
        constructor
        · rintro (⟨_,rfl⟩ | ⟨_,p,U,rfl⟩)
          · exact ⟨[],[],by simp⟩
          · exact ⟨[],p :: U,by simp⟩
        · rintro ⟨p,U,rfl⟩
          have hrow:=hT.1.row R.length (by simp)
          rw [row_at,List.length_append] at hrow
          have hp : p = []:=List.length_eq_zero_iff.1 (by omega)
          subst hp
          have hlen:=hT.1.len
          cases U with
          | nil=>exact .inl ⟨by simpa using hlen,by simp⟩
          | cons u U=>exact .inr ⟨by simp at hlen ⊢;omega,u,U,by simp⟩
      · rw [if_neg hc,mem_catX_iff]
        constructor
        · rintro ⟨x,hx1,hx2,hx⟩
          split at hx
          · cases hx
          · rename_i hn
            simp only [not_or] at hn
            rw [← rowF_natD] at hn
            have h':=h.push hx1 (by omega) ⟨hlt,by omega⟩ hn.1 hn.2.1 hn.2.2.1 (by rw [← rowF_natD];exact hn.2.2.2)
            have hx':=(refZ_iff htot h' (by simp only [List.length_cons];omega)).1 hx
            refine ⟨hx'.1,(hg T).2 ?_⟩
            rcases hx'.2 with ⟨h3,_⟩ | ⟨_,p,U,rfl⟩
            · omega
            · exact ⟨p ++ [x],U,by simp⟩
        · rintro ⟨hT,hgo⟩
          obtain ⟨q,U,rfl⟩:=(hg T).1 hgo
          have hrow:=hT.1.row R.length (by simp)
          rw [row_at,List.length_append] at hrow
          have hq : q ≠ []:=fun e=>by subst e;simp at hrow;omega
          obtain ⟨p,x,rfl⟩ : ∃ p x,q = p ++ [x]:=⟨q.dropLast,q.getLast hq,(List.dropLast_concat_getLast hq).symm⟩
          simp only [List.length_append,List.length_cons,List.length_nil] at hrow
          obtain ⟨hx1,hx2⟩:=hT.1.ent _ mem_row x (by simp)
          have hcnt:=hT.2.1 x hx1 hx2
          rw [count_pre] at hcnt
          have hcx:=h.cam x hx1 hx2
          have n1 : came.getD (x - 1).toNat 0 ≠ b.getD (x - 1).toNat 0:=by
            rw [List.count_append,List.count_cons,beq_self_eq_true] at hcnt
            simp only [if_true] at hcnt
            omega
          have n2 : ¬ (1 < x ∧ came.getD (x - 2).toNat 0 < came.getD (x - 1).toNat 0 + 1):=by
            rintro ⟨k1,k2⟩
            obtain ⟨L,g1,g2,g3⟩:=h.lat
            have hb8:=h.b8 (x - 1).toNat
            have hcl:=h.cle x hx1 hx2
            have hbl:=h.bl
            have hL:=lt_pre hT.2.2
            have e1 : (fun c=>ltR c (p ++ [x] ++ s).reverse) = fun c=>(ltR c s.reverse).bind fun d=>ltR d (x :: p.reverse):=by
              funext d
              rw [List.reverse_append,List.reverse_append,ltR_app];rfl
            rw [e1,← Option.bind_assoc,g1] at hL
            have h6:=g3 x hx1 hx2
            have h7:=g3 (x - 1) (by omega) (by omega)
            rw [show x - 1 - 1 = x - 2 by omega] at h7
            have : ltS L x = none:=by
              rw [ltS_eq hx1 (by omega) g2 (by omega),if_pos ⟨k1,by omega⟩]
            rw [show (some L).bind (fun d=>ltR d (x :: p.reverse)) = ltR L (x :: p.reverse) from rfl,ltR,this] at hL
            cases hL
          have hord:=hT.1.ord R.length p.length (by simp) (by rw [row_at];simp)
          rw [row_at,show (p ++ [x] ++ s).getD p.length 0 = x by simp] at hord
          have n3 : ¬ (s ≠ [] ∧ s.headD 0 < x):=by
            rintro ⟨k1,k2⟩
            cases s with
            | nil=>exact k1 rfl
            | cons z s =>
              have h5:=(hT.1.ord R.length (p.length + 1) (by simp) (by rw [row_at];simp)).1 (by omega)
              rw [row_at,Nat.add_sub_cancel,show (p ++ [x] ++ z :: s).getD p.length 0 = x by simp,getD_cat (by simp)] at h5
              simp at h5 k2
              omega
          have n4 : ¬ x ≤ atF a R ((R.length:Int) - 1) (rowF c R.length - 1 - s.length):=by
            by_cases h0 : 0 < R.length
            · have h5:=hord.2 h0
              rw [show rowF c R.length - 1 - s.length = rowF a R.length + p.length by omega]
              rw [atF_congr (T':=R) (getD_left (by omega))] at h5
              omega
            · rw [show ((R.length:Int) - 1) = -1 by omega]
              simp [atF];omega
          refine ⟨x,hx1,by omega,?_⟩
          rw [if_neg (by simp only [not_or];exact ⟨n1,n2,n3,n4⟩)]
          rw [refZ_iff htot (h.push hx1 hx2 ⟨hlt,by omega⟩ n1 n2 n3 (by rw [← rowF_natD];exact n4)) (by simp only [List.length_cons];omega)]
          exact ⟨hT,.inr ⟨hlt,p,U,by simp⟩⟩
theorem refZ_nodup {a b c : List Int} (htot : ∀ T, Tab a c b.length T → (T.flatten.length:Int) = sumQ (fun k => b.getD k 0) b.length) :
    ∀ {n : Nat} {R : List (List Int)} {s came : List Int},StS a b c R s came → 10 * (c.length - R.length) + (8 - s.length) < n → (refZ a b c n R s came).Nodup
  | 0,R,s,came,h,hm=>by omega
  | n + 1,R,s,came,h,hm=>by
    rw [refZ]
    by_cases hR : R.length = c.length
    · rw [if_pos hR];simp
    · rw [if_neg hR]
      have hlt : R.length < c.length:=by have:=h.len;omega
      have hsl:=h.sl hlt
      have hac:=h.ac R.length
      rw [← rowF_natD]
      by_cases hc : rowF c R.length - 1 - s.length < rowF a R.length
      · rw [if_pos hc]
        exact refZ_nodup htot (h.close hlt (by omega)) (by simp only [List.length_append,List.length_cons,List.length_nil];omega)
      · rw [if_neg hc]
        refine nodup_catX (fun x hx1 hx2=>?_) (fun x y t h1 h2 h3 hx hy=>?_)
        · split
          · exact List.nodup_nil
          · rename_i hn
            simp only [not_or] at hn
            exact refZ_nodup htot (h.push hx1 (by omega) ⟨hlt,by omega⟩ hn.1 hn.2.1 hn.2.2.1 (by rw [← rowF_natD];exact hn.2.2.2)) (by simp only [List.length_cons];omega)
        · have key : ∀ z, 1 ≤ z → z ≤ (b.length:Int) → t ∈ (if came.getD (z - 1).toNat 0 = b.getD (z - 1).toNat 0 ∨ (1 < z ∧ came.getD (z - 2).toNat 0 < came.getD (z - 1).toNat 0 + 1) ∨ (s ≠ [] ∧ s.headD 0 < z) ∨ z ≤ atF a R ((R.length:Int) - 1) (rowF c R.length - 1 - s.length) then []
              else refZ a b c n R (z :: s) (came.set (z - 1).toNat (came.getD (z - 1).toNat 0 + 1))) → ∃ p U,t = R ++ (p ++ z :: s) :: U:=by
            intro z hz1 hz2 hz
            split at hz
            · cases hz
            · rename_i hn
              simp only [not_or] at hn
              have:=((refZ_iff htot (h.push hz1 hz2 ⟨hlt,by omega⟩ hn.1 hn.2.1 hn.2.2.1 (by rw [← rowF_natD];exact hn.2.2.2)) (by simp only [List.length_cons];omega)).1 hz).2
              rcases this with ⟨h3,_⟩ | ⟨_,p,U,h3⟩
              · omega
              · exact ⟨p,U,h3⟩
          obtain ⟨p,U,e1⟩:=key x h1 (by omega) hx
          obtain ⟨q,V,e2⟩:=key y (by omega) (by omega) hy
          have e3:=congrArg (fun t=>t.getD R.length []) (e1.symm.trans e2)
          simp only [row_at] at e3
          have e4:=List.append_inj' e3 (by simp)
          have:=(List.cons.inj e4.2).1
          omega
end Go.Schur
namespace Go.Schur
open Go Go.Ab Go.Proofs
theorem goal109c : con109c.goal Try.prog (spS [] [con116]) g109c_sh [900000] lm30:=by
  have e : (∀ (rows:List (List Int)) (out:Int),(ent8 rows ∧ 0 ≤ out ∧ out ≤ 500000000) → g109c rows out = some (true,rows,out + latN rows,())) = con109c.goal Try.prog (spS [] [con116]) g109c_sh [900000] lm30:=by kernel_rfl
  rw [← e]
  rintro rows out ⟨h8,h1,h2⟩
  unfold g109c latN
  rw [List.drop_zero,List.take_length,gd_pos (by omega),gd_pos h8]
  cases latI rows with
  | true=>simp only [cond_true];rw [wr_id (by omega)]
  | false=>simp
set_option maxRecDepth 100000 in
theorem ok109c : con109c.Ok Try.prog:=SCon.of_goal mixed (okC ok116 okN) okS0 con109c goal109c
theorem e77c (n:Nat) : (∀ (inner outer:List Int) (most:Int) (out:Int) (left:List Int) (rows:List (List Int)),preB (n + 1) inner outer left most rows out → g77c n inner outer most out left rows = some (true,inner,outer,most,out + filL inner outer most (n + 1) left rows,left,rows,())) = (con77c (n + 1)).goal Try.prog (spS [con109c,con77c n] [con110,con111]) g77c_sh ms77 lm30:=by kernel_rfl
theorem goal77c (n:Nat) : (con77c (n + 1)).goal Try.prog (spS [con109c,con77c n] [con110,con111]) g77c_sh ms77 lm30:=by
  rw [← e77c]
  rintro inner outer most out left rows ⟨hp,ho,hb⟩
  have hcap:=hp.capR
  have hmo:=hp.mo
  have hil:=hp.il
  have hol:=hp.ol
  have hw2 : wr .i64 ((rows.length:Int) - 1 + 1) = (rows.length:Int):=(wr_id (by omega)).trans (by omega)
  have hw1 : wr .i64 ((rows.length:Int) - 1) = (rows.length:Int) - 1:=wr_id (by omega)
  unfold g77c
  simp only [hw1,hw2]
  have hn : (!ilt ((rows.length:Int) - 1) 0) = true → 0 ≤ (rows.length:Int) - 1:=fun h=>by
    by_cases h0 : (rows.length:Int) - 1 < 0
    · rw [ilt_iff.2 h0] at h;cases h
    · omega
  have hc1 : g77c_c1 inner outer rows = full inner outer rows:=by
    rcases List.eq_nil_or_concat rows with rfl | ⟨R,r,rfl⟩
    · have h0 : ilt (wr .i64 (((([]:List (List Int)).length:Nat):Int) - 1)) 0 = true:=by decide
      unfold g77c_c1;rw [h0];rfl
    · rw [List.concat_eq_append] at *
      rw [full_app]
      unfold g77c_c1 g77c_c0
      simp only [hw1]
      have h1 : (((R ++ [r]).length:Nat):Int) - 1 = R.length:=by simp
      rw [h1]
      have h2 : ilt (R.length:Int) 0 = false:=ilt_false.2 (by omega)
      have h3:=hp.i0 R.length
      have h4:=hp.o8 R.length
      have h5:=hp.ins R.length
      have h6:=hcap.2 r (by simp)
      rw [h2,cond_false,Nat.zero_add,Int.toNat_natCast,getD_app,wr_id (by omega)]
      rfl
  simp only [imp_self,gd_true]
  rw [gd_pos (by intro h;exact ⟨h,h,hn h,by omega⟩),gd_pos (by intro h;exact ⟨h,h,hn h,by omega⟩),gd_pos (by intro h;have:=hn h;exact ⟨h,by omega⟩),gd_pos (by intro h;exact ⟨h,h⟩),gd_pos (by intro h;exact ⟨h,h,hn h,by omega⟩),gd_pos (by intro h;exact ⟨h,h⟩),gd_pos (by intro h;simp [h]),hc1]
  cases hf : full inner outer rows with
  | true =>
    rw [cond_true]
    by_cases hl : rows.length = outer.length
    · have h1 : ieq (rows.length:Int) (outer.length:Int) = true:=by rw [hl];exact ieq_iff.2 rfl
      rw [h1,cond_true]
      simp only [filL,fil,hf,if_true,if_pos hl]
      have hb2 : out + 1 ≤ 500000000:=by simpa [fil,hf,hl] using hb
      have h8 : ent8 rows:=⟨by omega,fun r hr=>⟨Nat.le_trans (hcap.2 r hr) (by omega),fun x hx=>by have:=hp.ent r hr x hx;omega⟩⟩
      rw [gd_pos ⟨h8,ho,by omega⟩]
      have hl2 : latN rows = ((List.filter latI [rows]).length:Int):=by unfold latN;cases hq : latI rows <;> simp [hq]
      rw [hl2]
    · have h1 : ieq (rows.length:Int) (outer.length:Int) = false:=ieq_false.2 (by omega)
      have h2 : preB n inner outer left most (rows ++ [[]]) out:=⟨hp.open_ hf hl,ho,by simpa only [fil,hf,if_true,if_neg hl] using hb⟩
      simp only [h1,cond_false,List.take_length,filL,fil,hf,if_true,if_neg hl]
      rw [gd_pos (Nat.le_refl _),gd_pos (by omega),gd_pos (by simp),gd_pos h2,gd_pos (by simp;omega),gd_pos (by simp)]
      simp
  | false =>
    rw [cond_false]
    rcases List.eq_nil_or_concat rows with rfl | ⟨R,r,rfl⟩
    · simp [full] at hf
    simp only [List.concat_eq_append] at *
    have hlen : (((R ++ [r]).length:Nat):Int) - 1 = R.length:=by simp
    simp only [hlen] at hw1 hn ⊢
    have hR : (R ++ [r]).length = R.length + 1:=by simp
    have hr8:=hcap.2 r (by simp)
    have hlt:=hp.lt8 hf
    have hi0:=hp.i0 R.length
    have ho8:=hp.o8 R.length
    have hR8 : R.length + 1 ≤ 8:=by rw [← hR];exact hcap.1
    have hc0 : g77c_c0 inner (R ++ [r]) = rowF inner R.length + r.length:=by
      unfold g77c_c0
      rw [hlen,hw1,Nat.zero_add,Int.toNat_natCast,getD_app,wr_id (by omega)]
    have hw3 : wr .i64 ((R.length:Int) - 1) = (R.length:Int) - 1:=wr_id (by omega)
    have hw4 : wr .i64 (rowF inner R.length + r.length - 1) = rowF inner R.length + r.length - 1:=wr_id (by omega)
    have ha1 : atP inner (R ++ [r]) ((R.length:Int) - 1) (rowF inner R.length + r.length):=by
      refine ⟨by omega,by rw [hR];omega,by omega,by omega,fun h=>?_⟩
      have h1:=hp.fl (R.length - 1) (by rw [hR];omega)
      have h2 : (((R.length - 1:Nat)):Int) = (R.length:Int) - 1:=by omega
      rw [h2] at h1
      have h3:=hp.i0 (R.length - 1)
      have h4:=hp.o8 (R.length - 1)
      have h5:=hp.od (R.length - 1)
      have h6 : ((R.length - 1 + 1:Nat):Int) = R.length:=by omega
      rw [h2] at h3 h4 h5
      rw [h6] at h5
      rw [show ((R.length:Int) - 1).toNat = R.length - 1 by omega]
      omega
    have ha2 : r ≠ [] → atP inner (R ++ [r]) R.length (rowF inner R.length + r.length - 1):=by
      intro hne
      have:=List.length_pos_iff.2 hne
      refine ⟨by omega,by rw [hR];omega,by omega,by omega,fun h=>?_⟩
      rw [Int.toNat_natCast,getD_app]
      omega
    have hv2 : r ≠ [] → atF inner (R ++ [r]) R.length (rowF inner R.length + r.length - 1) = r.getLastD 0:=by
      intro hne
      have:=List.length_pos_iff.2 hne
      unfold atF
      rw [if_neg (by omega),Int.toNat_natCast,getD_app,show (rowF inner R.length + r.length - 1 - rowF inner R.length).toNat = r.length - 1 by omega]
      rw [List.getLastD_eq_getLast?,List.getLast?_eq_getElem?,List.getD_eq_getElem?_getD]
    have hb1:=atF_bd (inner:=inner) (i:=(R.length:Int) - 1) (j:=rowF inner R.length + r.length) hmo.1 hp.ent
    have hc2 : g77c_c2 inner (R ++ [r]) = atF inner (R ++ [r]) ((R.length:Int) - 1) (rowF inner R.length + r.length):=by
      unfold g77c_c2
      rw [List.drop_zero,List.take_length,hlen,hc0,wr_id (n:=(R.length:Int)) (by omega),hw3]
    have hc3 : g77c_c3 (R ++ [r]) = decide (r ≠ []):=by
      unfold g77c_c3
      rw [hlen,wr_id (n:=(R.length:Int)) (by omega),Nat.zero_add,Int.toNat_natCast,getD_app]
      cases r <;> simp [ilt]
    have hc4 : r ≠ [] → g77c_c4 inner (R ++ [r]) = r.getLastD 0:=by
      intro hne
      unfold g77c_c4
      rw [List.drop_zero,List.take_length,hlen,hc0,wr_id (n:=(R.length:Int)) (by omega),hw4,hv2 hne]
    have hw5 : wr .i64 (atF inner (R ++ [r]) ((R.length:Int) - 1) (rowF inner R.length + r.length) + 1) = atF inner (R ++ [r]) ((R.length:Int) - 1) (rowF inner R.length + r.length) + 1:=wr_id (by omega)
    have hlf:=hp.lf rfl
    simp only [filL,fil,hf] at hb ⊢
    have hL : leastF inner (R ++ [r]) = if r = [] then max 1 (atF inner (R ++ [r]) ((R.length:Int) - 1) (rowF inner R.length + r.length) + 1) else max (max 1 (atF inner (R ++ [r]) ((R.length:Int) - 1) (rowF inner R.length + r.length) + 1)) (r.getLastD 0):=by
      unfold leastF
      rw [last_app,show (((R ++ [r]).length:Nat):Int) - 2 = (R.length:Int) - 1 by omega,hlen]
    have hL1 : 1 ≤ leastF inner (R ++ [r]):=by rw [hL];split <;> omega
    simp only [Bool.false_eq_true,if_false] at hb ⊢
    simp only [hc0,hc2,hw3,hw4,hw5,hc3,List.drop_zero,List.take_length,Nat.zero_add,Int.toNat_natCast,gd_pos ha1]
    rw [gd_pos ⟨by omega,by omega⟩,gd_pos (by omega)]
    have hmem : ∀ p : Nat,p < left.length → 0 ≤ left.getD p 0 ∧ left.getD p 0 ≤ 8:=fun p hp=>by
      rw [List.getD_eq_getElem?_getD,List.getElem?_eq_getElem hp]
      exact hlf.2 _ (List.getElem_mem hp)
    have hpre : ∀ (p:Nat) (s:Int),p < left.length → left.getD p 0 ≠ 0 → 0 ≤ s ∧ s + (useX left false ((p:Int) + 1) fun l=>fil inner outer most false n l (addX (R ++ [r]) ((p:Int) + 1))).length ≤ 500000000 → preB n inner outer (left.set p (left.getD p 0 - 1)) most (R ++ [r ++ [(p:Int) + 1]]) s:=by
      intro p s hp1 hp2 hs
      have h1:=hmem p hp1
      have e1 : ((p:Int) + 1 - 1).toNat = p:=by omega
      simp only [useX,Bool.false_eq_true,if_false,e1,if_neg hp2,addX_app] at hs
      refine ⟨hp.box hf ⟨by omega,by omega⟩ (fun _=>⟨by simpa using hlf.1,fun y hy=>?_⟩),hs.1,hs.2⟩
      rcases List.mem_or_eq_of_mem_set hy with h2 | h2
      · exact hlf.2 y h2
      · omega
    rcases Decidable.em (r = []) with hr | hr
    · rw [decide_eq_false (by simp [hr]),cond_false]
      rw [if_pos hr] at hL
      rw [imax_eq,← hL]
      rw [gd_pos (by omega),gd_pos (Nat.le_refl _),gd_pos (Nat.le_refl _),gd_pos ⟨by omega,by omega⟩,gd_pos (by omega)]
      refine whileO_cat (fun (s:Int) b=>s + ((b.filter latI).length:Int)) (fun (s:Int) b=>0 ≤ s ∧ s + (b.length:Int) ≤ 500000000) (fun s=>by simp) (fun s a b=>by simp only [List.filter_append,List.length_append];omega) (fun s a b h=>by have:=List.length_filter_le latI a;simp only [List.length_append] at h ⊢;omega)
        (fun x s=>(x,inner,outer,most,s,left,R ++ [r],())) (fun s=>(true,inner,outer,most,s,left,R ++ [r],())) (fun x=>useX left false x fun l=>fil inner outer most false n l (addX (R ++ [r]) x)) (leastF inner (R ++ [r])) most ?_ ?_ _ _ out (Int.le_refl _) rfl ⟨ho,hb⟩
      · intro x s hx1 hx2 hs
        obtain ⟨p,rfl⟩ : ∃ p : Nat,x = (p:Int) + 1:=⟨(x - 1).toNat,by omega⟩
        have hpl : p < left.length:=by omega
        have hq : ile ((p:Int) + 1) most = true:=ile_iff.2 hx2
        have hx : wr .i64 ((p:Int) + 1 - 1) = p:=(wr_id (by omega)).trans (by omega)
        have hx' : wr .i64 ((p:Int) + 1 + 1) = (p:Int) + 1 + 1:=wr_id (by omega)
        have e1 : ((p:Int) + 1 - 1).toNat = p:=by omega
        have hv:=hmem p hpl
        simp only [g77c_c5,g77c_c6,g77c_c7,g77c_c8,g77c_c9,g77c_c10,g77c_c11,g77c_c12,Nat.zero_add,hq,cond_true,hx,hx',Int.toNat_natCast,getD_app,set_app,hR,useX,Bool.false_eq_true,if_false,e1,addX_app]
        rw [gd_pos (by omega),gd_pos ⟨by omega,by omega⟩,gd_pos (by omega)]
        by_cases h0 : left.getD p 0 = 0
        · rw [ieq_iff.2 h0,cond_true,if_pos h0];simp
        · rw [ieq_false.2 h0,cond_false,if_neg h0]
          have hpr:=hpre p s hpl h0 hs
          have h9 : wr .i64 (left.getD p 0 - 1) = left.getD p 0 - 1:=wr_id (by omega)
          have h7 : (left.set p (left.getD p 0 - 1)).getD p 0 = left.getD p 0 - 1:=by simp [List.getD_eq_getElem?_getD,List.getElem?_set,hpl]
          have h8 : wr .i64 (left.getD p 0 - 1 + 1) = left.getD p 0:=(wr_id (by omega)).trans (by omega)
          have h6 : (left.set p (left.getD p 0 - 1)).set p (left.getD p 0) = left:=by
            have:=set_left hpl
            rwa [h7,Int.sub_add_cancel] at this
          have h5 : wr .i64 (((r.length + 1:Nat):Int) - 1) = r.length:=(wr_id (by omega)).trans (by omega)
          have h4 : List.take r.length (r ++ [(p:Int) + 1]) = r:=by simp
          have h3 : (R ++ [r ++ [(p:Int) + 1]]).length = R.length + 1:=by simp
          have h2 : (r ++ [(p:Int) + 1]).length = r.length + 1:=by simp
          have q1 : (0 ≤ (p:Int) ∧ (p:Int) < (left.length:Int)) = True:=eq_true ⟨by omega,by omega⟩
          have q2 : (0 ≤ (R.length:Int) ∧ (R.length:Int) < ((R.length + 1:Nat):Int)) = True:=eq_true ⟨by omega,by omega⟩
          have q3 : (left.length = 0) = False:=eq_false (by omega)
          have q4 : ((r.length + 1) * 8 ≤ 1099511627776) = True:=eq_true (by omega)
          have q5 : (0 ≤ (r.length:Int) ∧ (r.length:Int) ≤ ((r.length + 1:Nat):Int)) = True:=eq_true ⟨by omega,by omega⟩
          have h1 : wr .i64 (((R.length + 1:Nat):Int) - 1) = R.length:=(wr_id (by omega)).trans (by omega)
          simp only [g77c_c5,g77c_c6,g77c_c7,g77c_c8,g77c_c9,g77c_c10,g77c_c11,g77c_c12,hlen,hw1,hx,h1,List.take_length,h9,h7,h8,h6,h5,h4,h3,h2,hR,q1,q2,q3,q4,q5,Nat.zero_add,Int.toNat_natCast,getD_app,set_app,List.length_set,Nat.lt_succ_self,Nat.le_refl,gd_true,not_false_eq_true,hpl,Nat.le_succ,gd_pos hpr]
      · intro x s hx
        simp only [ile_false.2 hx,cond_false]
    · rw [decide_eq_true hr,cond_true,gd_pos (ha2 hr)]
      rw [if_neg hr] at hL
      rw [hc4 hr,imax_eq,imax_eq,← hL]
      repeat rw [gd_pos (by omega)]
      repeat rw [gd_pos ⟨by omega,by omega⟩]
      repeat rw [gd_pos (by omega)]
      refine whileO_cat (fun (s:Int) b=>s + ((b.filter latI).length:Int)) (fun (s:Int) b=>0 ≤ s ∧ s + (b.length:Int) ≤ 500000000) (fun s=>by simp) (fun s a b=>by simp only [List.filter_append,List.length_append];omega) (fun s a b h=>by have:=List.length_filter_le latI a;simp only [List.length_append] at h ⊢;omega)
        (fun x s=>(x,inner,outer,most,s,left,R ++ [r],())) (fun s=>(true,inner,outer,most,s,left,R ++ [r],())) (fun x=>useX left false x fun l=>fil inner outer most false n l (addX (R ++ [r]) x)) (leastF inner (R ++ [r])) most ?_ ?_ _ _ out (Int.le_refl _) rfl ⟨ho,hb⟩
      · intro x s hx1 hx2 hs
        obtain ⟨p,rfl⟩ : ∃ p : Nat,x = (p:Int) + 1:=⟨(x - 1).toNat,by omega⟩
        have hpl : p < left.length:=by omega
        have hq : ile ((p:Int) + 1) most = true:=ile_iff.2 hx2
        have hx : wr .i64 ((p:Int) + 1 - 1) = p:=(wr_id (by omega)).trans (by omega)
        have hx' : wr .i64 ((p:Int) + 1 + 1) = (p:Int) + 1 + 1:=wr_id (by omega)
        have e1 : ((p:Int) + 1 - 1).toNat = p:=by omega
        have hv:=hmem p hpl
        simp only [g77c_c5,g77c_c6,g77c_c7,g77c_c8,g77c_c9,g77c_c10,g77c_c11,g77c_c12,Nat.zero_add,hq,cond_true,hx,hx',Int.toNat_natCast,getD_app,set_app,hR,useX,Bool.false_eq_true,if_false,e1,addX_app]
        rw [gd_pos (by omega),gd_pos ⟨by omega,by omega⟩,gd_pos (by omega)]
        by_cases h0 : left.getD p 0 = 0
        · rw [ieq_iff.2 h0,cond_true,if_pos h0];simp
        · rw [ieq_false.2 h0,cond_false,if_neg h0]
          have hpr:=hpre p s hpl h0 hs
          have h9 : wr .i64 (left.getD p 0 - 1) = left.getD p 0 - 1:=wr_id (by omega)
          have h7 : (left.set p (left.getD p 0 - 1)).getD p 0 = left.getD p 0 - 1:=by simp [List.getD_eq_getElem?_getD,List.getElem?_set,hpl]
          have h8 : wr .i64 (left.getD p 0 - 1 + 1) = left.getD p 0:=(wr_id (by omega)).trans (by omega)
          have h6 : (left.set p (left.getD p 0 - 1)).set p (left.getD p 0) = left:=by
            have:=set_left hpl
            rwa [h7,Int.sub_add_cancel] at this
          have h5 : wr .i64 (((r.length + 1:Nat):Int) - 1) = r.length:=(wr_id (by omega)).trans (by omega)
          have h4 : List.take r.length (r ++ [(p:Int) + 1]) = r:=by simp
          have h3 : (R ++ [r ++ [(p:Int) + 1]]).length = R.length + 1:=by simp
          have h2 : (r ++ [(p:Int) + 1]).length = r.length + 1:=by simp
          have q1 : (0 ≤ (p:Int) ∧ (p:Int) < (left.length:Int)) = True:=eq_true ⟨by omega,by omega⟩
          have q2 : (0 ≤ (R.length:Int) ∧ (R.length:Int) < ((R.length + 1:Nat):Int)) = True:=eq_true ⟨by omega,by omega⟩
          have q3 : (left.length = 0) = False:=eq_false (by omega)
          have q4 : ((r.length + 1) * 8 ≤ 1099511627776) = True:=eq_true (by omega)
          have q5 : (0 ≤ (r.length:Int) ∧ (r.length:Int) ≤ ((r.length + 1:Nat):Int)) = True:=eq_true ⟨by omega,by omega⟩
          have h1 : wr .i64 (((R.length + 1:Nat):Int) - 1) = R.length:=(wr_id (by omega)).trans (by omega)
          simp only [g77c_c5,g77c_c6,g77c_c7,g77c_c8,g77c_c9,g77c_c10,g77c_c11,g77c_c12,hlen,hw1,hx,h1,List.take_length,h9,h7,h8,h6,h5,h4,h3,h2,hR,q1,q2,q3,q4,q5,Nat.zero_add,Int.toNat_natCast,getD_app,set_app,List.length_set,Nat.lt_succ_self,Nat.le_refl,gd_true,not_false_eq_true,hpl,Nat.le_succ,gd_pos hpr]
      · intro x s hx
        simp only [ile_false.2 hx,cond_false]
set_option maxRecDepth 100000 in
theorem ok77c_0 : (con77c 0).Ok Try.prog:=scon_false _ (by kernel_rfl) (by
  have e : (∀ (inner outer:List Int) (most:Int) (out:Int) (left:List Int) (rows:List (List Int)) (p : List Prop),some [preB 0 inner outer left most rows out] = some p → ¬ Ab.allP p) = (allD ((con77c 0).ins.flatMap TV.ts ++ tsB (con77c 0).ibl) fun env=>∀ p,(con77c 0).pre env = some p → ¬ Ab.allP p):=by kernel_rfl
  rw [← e]
  intro inner outer most out left rows p hp hq
  cases hp
  exact absurd (Ab.allP_one.1 hq).1.mu (by omega))
set_option maxRecDepth 100000 in
theorem ok77c : ∀ n,(con77c n).Ok Try.prog
  | 0=>ok77c_0
  | n + 1=>SCon.of_goal mixed (okC ok110 (okC ok111 okN)) (okS ok109c (okS (ok77c n) okS0)) (con77c (n + 1)) (goal77c n)
end Go.Schur
namespace Go.Schur
open Go Go.Ab Go.Proofs
theorem goal68c : con68c.goal Try.prog (spS [con77c 81] [con86]) g68c_sh [18] lm30:=by
  have e : (∀ (inner outer m:List Int) (out:Int),(okIn inner outer m ∧ contB m = true ∧ 0 ≤ out ∧ out ≤ 1000000) → g68c inner outer m out = some (out + eachL inner outer m,())) = con68c.goal Try.prog (spS [con77c 81] [con86]) g68c_sh [18] lm30:=by kernel_rfl
  rw [← e]
  rintro inner outer m out ⟨h,hm,ho,hb⟩
  have h1:=h.il
  have h2:=h.ol
  have h3:=h.ml
  have h4:=fil_bd (inner:=inner) (outer:=outer) hm
  unfold g68c
  rw [gd_pos (by omega),gd_pos (by omega),gd_pos (by omega)]
  unfold eachL
  by_cases hs : wr .i64 (boxW outer - boxW inner) = boxW m
  · rw [if_pos hs]
    rw [ieq_iff.2 hs]
    simp only [Bool.not_true,cond_false]
    rw [gd_pos (by omega),gd_pos (by omega),gd_pos (by omega)]
    simp only [gd_true]
    rw [gd_pos ⟨h.pre,ho,by omega⟩]
  · rw [if_neg hs,ieq_false.2 hs]
    simp [gd_true]
set_option maxRecDepth 100000 in
theorem ok68c : con68c.Ok Try.prog:=SCon.of_goal mixed (okC ok86 okN) (okS (ok77c 81) okS0) con68c goal68c
theorem goal71c : con71c.goal Try.prog (spS [con68c] []) g71c_sh [] lm30:=by
  have e : (∀ (inner outer m:List Int),(okIn inner outer m ∧ contB m = true) → g71c inner outer m = some (eachL inner outer m,())) = con71c.goal Try.prog (spS [con68c] []) g71c_sh [] lm30:=by kernel_rfl
  rw [← e]
  rintro inner outer m ⟨h,hm⟩
  unfold g71c
  rw [gd_pos ⟨h,hm,by omega,by omega⟩,Int.zero_add]
set_option maxRecDepth 100000 in
theorem ok71c : con71c.Ok Try.prog:=Con.of_goalS mixed okN (okS ok68c okS0) con71c goal71c
theorem goal115 : con115.goal Try.prog (spOf [con110]) g115_sh [] lm30:=by
  have e : (∀ (l c:List Int),(l.length ≤ 1000 ∧ c.length ≤ 1000) → g115 l c = some (insB l c,())) = con115.goal Try.prog (spOf [con110]) g115_sh [] lm30:=by kernel_rfl
  rw [← e]
  rintro l c ⟨h1,h2⟩
  unfold g115
  have key : ∀ (d i:Nat), i + d = l.length → ((List.range i).all fun i => decide (l.getD i 0 ≤ rowF c i)) = true →
      whileO (fun (d2 : Int × Unit)=>bif ilt d2.1 (↑(List.length l):Int) then gd ((0:Int) ≤ d2.1 ∧ d2.1 < (↑(List.length l):Int)) (gd ((0:Int) ≤ d2.1 ∧ List.length c ≤ (1000:Nat)) (bif ilt (rowF c d2.1) (List.getD l (Int.toNat d2.1) (0:Int)) then some (Lp.out ((false,()) : Bool × Unit)) else some (Lp.go ((wr .i64 (d2.1 + (1:Int)),()) : Int × Unit)))) else some (Lp.out ((true,()) : Bool × Unit))) (((i:Int),()) : Int × Unit) = some (insB l c,()):=by
    intro d
    induction d with
    | zero =>
      intro i hi ha
      have hi : i = l.length:=by omega
      subst hi
      refine whileO_out ?_
      simp only [ilt_false.2 (Int.le_refl _),cond_false]
      unfold insB;rw [ha]
    | succ d ih =>
      intro i hi ha
      have hlt : i < l.length:=by omega
      by_cases h : l.getD i 0 ≤ rowF c i
      · refine (whileO_go (s':=(((i + 1:Nat):Int),())) ?_).trans (ih (i + 1) (by omega) ?_)
        · simp only [ilt_iff.2 (show (i:Int) < (l.length:Int) by omega),cond_true,Int.toNat_natCast]
          rw [gd_pos ⟨by omega,by omega⟩,gd_pos ⟨by omega,h2⟩,ilt_false.2 h,cond_false,wr_id (by omega)]
          rfl
        · rw [List.range_succ,List.all_append,ha];simpa using h
      · refine whileO_out ?_
        simp only [ilt_iff.2 (show (i:Int) < (l.length:Int) by omega),cond_true,Int.toNat_natCast]
        rw [gd_pos ⟨by omega,by omega⟩,gd_pos ⟨by omega,h2⟩,ilt_iff.2 (by omega),cond_true]
        have : insB l c = false:=by
          unfold insB
          rw [List.all_eq_false]
          exact ⟨i,List.mem_range.2 hlt,by simpa using h⟩
        rw [this]
  exact key l.length 0 (by omega) rfl
set_option maxRecDepth 100000 in
theorem ok115 : con115.Ok Try.prog:=Con.of_goal mixed (okC ok110 okN) con115 goal115
theorem ins_iff {l c : List Int} (hc : ∀ i : Nat,0 ≤ rowF c i) : insB l c = true ↔ ∀ i : Nat,rowF l i ≤ rowF c i:=by
  unfold insB
  rw [List.all_eq_true]
  constructor
  · intro h i
    by_cases hi : i < l.length
    · have:=of_decide_eq_true (h i (List.mem_range.2 hi))
      unfold rowF at this ⊢
      rw [if_neg (by omega),Int.toNat_natCast] at this ⊢
      exact this
    · have:=hc i
      unfold rowF at this ⊢
      rw [if_neg (by omega),Int.toNat_natCast] at this ⊢
      rw [List.getD_eq_getElem?_getD,List.getElem?_eq_none (by omega)]
      exact this
  · intro h i hi
    have:=h i
    unfold rowF at this ⊢
    rw [if_neg (by omega),Int.toNat_natCast] at this ⊢
    exact decide_eq_true this
theorem shape_cont {b : List Int} (h : shapeB b = true) : contB b = true:=by
  obtain ⟨p,hp,rfl,h8,_,hs⟩:=shape_allP h
  have : ∀ p ∈ Go.Schur.allP,contB (toI p) = true:=by decide +kernel
  exact this p hp
theorem goal96 : con96.goal Try.prog (spOf [con115,con71c]) g96_sh [] lm30:=by
  have e : (∀ (a b c:List Int),(sh3 a b c) → g96 a b c = some (ruleF a b c,())) = con96.goal Try.prog (spOf [con115,con71c]) g96_sh [] lm30:=by kernel_rfl
  rw [← e]
  rintro a b c ⟨ha,hb,hc⟩
  have h1:=(shapeB_iff.1 ha).1
  have h2:=(shapeB_iff.1 hc).1
  unfold g96 ruleF
  rw [gd_pos ⟨by omega,by omega⟩]
  cases hi : insB a c with
  | false=>simp
  | true =>
    simp only [Bool.not_true,cond_false,if_true]
    rw [gd_pos ⟨okIn_of ha hc (shape_cont hb) ((ins_iff fun i=>(shape_row hc i).1).1 hi),shape_cont hb⟩]
set_option maxRecDepth 100000 in
theorem ok96 : con96.Ok Try.prog:=Con.of_goal mixed (okC ok115 (okC ok71c okN)) con96 goal96
theorem goal97l : con97l.goal Try.prog (spS [] []) g97l_sh [5] lm30:=by
  have e : (∀ (n:Int) (xs:List Int),(0 ≤ n ∧ n ≤ 100000 ∧ n ≤ xs.length) → g97l n xs = some (xs.take n.toNat,xs,())) = con97l.goal Try.prog (spS [] []) g97l_sh [5] lm30:=by kernel_rfl
  rw [← e]
  rintro n xs ⟨h1,h2,h3⟩
  unfold g97l
  have hl : (List.take n.toNat xs).length = n.toNat:=by rw [List.length_take];omega
  by_cases h : n.toNat = 0
  · rw [h];simp [gd_true,eqO]
  · simp [gd_true,eqO,h,hl]
    rw [gd_pos (by omega),gd_pos (by omega),List.take_take,Nat.min_self]
set_option maxRecDepth 100000 in
theorem ok97l : con97l.Ok Try.prog:=SCon.of_goal mixed okN okS0 con97l goal97l
theorem goal95 : con95.goal Try.prog (spS [con97l] [con96]) g95_sh [] lm30:=by
  have e : (∀ (n:Int) (xs x y:List Int) (out : List TermD),(n = (xs.length:Int) ∧ n ≤ 8 ∧ sh3 x y xs ∧ out.length ≤ 1000) → g95 n xs x y out = some (xs,x,y,out ++ termF x y xs,())) = con95.goal Try.prog (spS [con97l] [con96]) g95_sh [] lm30:=by kernel_rfl
  rw [← e]
  rintro n xs x y out ⟨rfl,h2,h3,h4⟩
  unfold g95 termF
  simp only [Int.toNat_natCast,List.drop_zero,List.take_length,Nat.zero_add,Nat.le_refl,gd_true]
  rw [gd_pos h3]
  by_cases h : 0 < ruleF x y xs
  · rw [ilt_iff.2 h,if_pos h,cond_true,gd_pos ⟨by omega,by omega,Int.le_refl _⟩,gd_pos (by omega),gd_pos (by simp)]
  · rw [ilt_false.2 (by omega),if_neg h,cond_false,List.append_nil]
set_option maxRecDepth 100000 in
theorem ok95 : con95.Ok Try.prog:=SCon.of_goal mixed (okC ok96 okN) (okS ok97l okS0) con95 goal95
theorem terms_app {x y : List Int} {a b : List (List Int)} : termsF x y (a ++ b) = termsF x y a ++ termsF x y b:=by unfold termsF;rw [List.flatMap_append]
theorem terms_len {x y : List Int} : ∀ {a : List (List Int)},(termsF x y a).length ≤ a.length
  | []=>Nat.le_refl _
  | c :: a=>by
    have h1 : (termF x y c).length ≤ 1:=by unfold termF;split <;> simp
    have h2:=terms_len (x:=x) (y:=y) (a:=a)
    show (termF x y c ++ termsF x y a).length ≤ _
    rw [List.length_append,List.length_cons];omega
theorem goal114 (n:Nat) : (con114 (n + 1)).goal Try.prog (spS [con95,con114 n] []) g114_sh ms114 lm30:=by
  have e : (∀ (left most:Int) (l x y:List Int) (out : List TermD),preT (n + 1) left most l x y out → g114 n left most l x y out = some (x,y,l,out ++ termsF x y (gsF (n + 1) left most l),())) = (con114 (n + 1)).goal Try.prog (spS [con95,con114 n] []) g114_sh ms114 lm30:=by kernel_rfl
  rw [← e]
  rintro left most l x y out ⟨h0,hn,hm0,hm8,hl,hsh,hlen⟩
  have hmin : imin left most = min left most:=by unfold imin;split <;> omega
  have main : ∀ out : List TermD, (∀ c ∈ catX (fun x => gsF n (left - x) x (l ++ [x])) (min left most).toNat 1, sh3 x y c) → out.length + (catX (fun x => gsF n (left - x) x (l ++ [x])) (min left most).toNat 1).length ≤ 1000 →
      ∀ (st : Int × List Int × List Int × List Int × List TermD × Unit → Option (Lp (Int × List Int × List Int × List Int × List TermD × Unit) (List Int × List Int × List Int × List TermD × Unit))),
      (∀ z (s : List TermD),1 ≤ z → z ≤ min left most → preT n (left - z) z (l ++ [z]) x y s → st (z,x,y,l,s,()) = some (.go (z + 1,x,y,l,s ++ termsF x y (gsF n (left - z) z (l ++ [z])),()))) →
      (∀ z (s : List TermD),min left most < z → st (z,x,y,l,s,()) = some (.out (x,y,l,s,()))) →
      whileO st (1,x,y,l,out,()) = some (x,y,l,out ++ termsF x y (catX (fun x=>gsF n (left - x) x (l ++ [x])) (min left most).toNat 1),()):=by
    intro out hs hlen st hgo hout
    refine whileO_cat (fun (s : List TermD) (b:List (List Int))=>s ++ termsF x y b) (fun s b=>(∀ c ∈ b,sh3 x y c) ∧ s.length + b.length ≤ 1000) (fun s=>by simp [termsF]) (fun s a b=>by rw [terms_app,List.append_assoc]) (fun s a b h=>?_)
      (fun z s=>(z,x,y,l,s,())) (fun s=>(x,y,l,s,())) (fun x=>gsF n (left - x) x (l ++ [x])) 1 (min left most) ?_ ?_ _ 1 out (Int.le_refl _) (by omega) ⟨hs,hlen⟩
    · obtain ⟨h1,h2⟩:=h
      have:=terms_len (x:=x) (y:=y) (a:=a)
      rw [List.length_append] at h2 ⊢
      exact ⟨⟨fun c hc=>h1 c (List.mem_append_left _ hc),by omega⟩,fun c hc=>h1 c (List.mem_append_right _ hc),by omega⟩
    · intro z s h1 h2 h3
      refine hgo z s h1 h2 ⟨by omega,by omega,by omega,by omega,by simp;omega,h3.1,h3.2⟩
    · intro z s h1
      exact hout z s h1
  have step1 : ∀ z (s : List TermD),1 ≤ z → z ≤ min left most → preT n (left - z) z (l ++ [z]) x y s → wr .i64 (z + 1) = z + 1 ∧ wr .i64 (left - z) = left - z ∧ ile z (min left most) = true ∧ List.take l.length l = l ∧ (l.length + 1) * 8 ≤ 1099511627776 ∧ wr .i64 (((l ++ [z]).length:Int) - 1) = l.length ∧ List.take l.length (l ++ [z]) = l:=fun z s h1 h2 h3 =>
    ⟨wr_id (by omega),wr_id (by omega),ile_iff.2 h2,List.take_length,by omega,(wr_id (by simp;omega)).trans (by simp),by simp⟩
  unfold g114
  simp only [gsF] at hsh hlen ⊢
  simp only [hmin,gd_true,true_and]
  by_cases hz : left = 0
  · rw [if_pos hz] at hsh hlen ⊢
    have hl0 : sh3 x y l:=hsh l (by simp)
    rw [ieq_iff.2 hz,cond_true,gd_pos ⟨by omega,hl0,by simp at hlen;omega⟩,terms_app,← List.append_assoc]
    have e1 : out ++ termsF x y [l] = out ++ termF x y l:=by simp [termsF]
    rw [e1]
    refine main (out ++ termF x y l) (fun c hc=>hsh c (List.mem_append_right _ hc)) ?_ _ (fun z s h1 h2 h3=>?_) (fun z s h1=>?_)
    · have : (termF x y l).length ≤ 1:=by unfold termF;split <;> simp
      simp only [List.length_append,List.length_cons,List.length_nil] at hlen ⊢;omega
    · obtain ⟨k1,k2,k3,k4,k5,k6,k7⟩:=step1 z s h1 h2 h3
      simp only [k3,cond_true,k4,k1,k2,k6,k7,Int.toNat_natCast,gd_true]
      rw [gd_pos (Nat.le_refl _),gd_pos k5,gd_pos (by simp),gd_pos h3,gd_pos ⟨by omega,by simp;omega⟩]
    · simp only [ile_false.2 h1,cond_false]
  · rw [if_neg hz] at hsh hlen ⊢
    rw [ieq_false.2 hz,cond_false,List.nil_append]
    refine main out (fun c hc=>hsh c hc) (by simpa using hlen) _ (fun z s h1 h2 h3=>?_) (fun z s h1=>?_)
    · obtain ⟨k1,k2,k3,k4,k5,k6,k7⟩:=step1 z s h1 h2 h3
      simp only [k3,cond_true,k4,k1,k2,k6,k7,Int.toNat_natCast,gd_true]
      rw [gd_pos (Nat.le_refl _),gd_pos k5,gd_pos (by simp),gd_pos h3,gd_pos ⟨by omega,by simp;omega⟩]
    · simp only [ile_false.2 h1,cond_false]
set_option maxRecDepth 100000 in
theorem ok114 : ∀ n,(con114 n).Ok Try.prog
  | 0 => scon_false _ (by kernel_rfl) (by
      have e : (∀ (left most:Int) (l x y:List Int) (out : List TermD) (p : List Prop),some [preT 0 left most l x y out] = some p → ¬ Ab.allP p) = (allD ((con114 0).ins.flatMap TV.ts ++ tsB (con114 0).ibl) fun env=>∀ p,(con114 0).pre env = some p → ¬ Ab.allP p):=by kernel_rfl
      rw [← e]
      intro left most l x y out p hp hq
      cases hp
      have h:=Ab.allP_one.1 hq
      have h1:=h.1
      have h2:=h.2.1
      omega)
  | n + 1=>SCon.of_goal mixed okN (okS ok95 (okS (ok114 n) okS0)) (con114 (n + 1)) (goal114 n)
theorem goal94 : con94.goal Try.prog (spS [con114 9] []) g94_sh [] lm30:=by
  have e : (∀ (n:Int) (x y:List Int) (out : List TermD),preT 9 n n [] x y out → g94 n x y out = some (x,y,out ++ termsF x y (gsF 9 n n []),())) = con94.goal Try.prog (spS [con114 9] []) g94_sh [] lm30:=by kernel_rfl
  rw [← e]
  intro n x y out h
  unfold g94
  rw [gd_pos rfl,gd_pos rfl,gd_pos h,gd_pos rfl]
set_option maxRecDepth 100000 in
theorem ok94 : con94.Ok Try.prog:=SCon.of_goal mixed okN (okS (ok114 9) okS0) con94 goal94
theorem gs_P : ∀ n ∈ List.range 9,gsF 9 (n:Nat) (n:Nat) [] = (P n).map toI:=by decide +kernel
theorem P_shape : ∀ n ∈ List.range 9,∀ p ∈ P n,shapeB (toI p) = true:=by decide +kernel
theorem P_len : ∀ n ∈ List.range 9,(P n).length ≤ 22:=by decide +kernel
theorem goal52 : con52.goal Try.prog (spS [con94] [con66,con86]) g52_sh [] lm30:=by
  have e : (∀ (a b:List Int),(a.length ≤ 1000 ∧ b.length ≤ 1000) → g52 a b = some (prodF a b)) = con52.goal Try.prog (spS [con94] [con66,con86]) g52_sh [] lm30:=by kernel_rfl
  rw [← e]
  rintro a b ⟨h1,h2⟩
  unfold g52 prodF
  rw [gd_pos h1]
  cases ha : shapeB a with
  | false=>simp [gd_true]
  | true =>
    cases hb : shapeB b with
    | false=>simp [gd_true,h2]
    | true =>
      have ha':=shapeB_iff.1 ha
      have hb':=shapeB_iff.1 hb
      have hwa : 0 ≤ boxW a ∧ boxW a ≤ 8:=by
        obtain ⟨p,hp,rfl,hp8,_,hs⟩:=shape_allP ha
        rw [toI_box hp8.len hs];omega
      have hwb : 0 ≤ boxW b ∧ boxW b ≤ 8:=by
        obtain ⟨p,hp,rfl,hp8,_,hs⟩:=shape_allP hb
        rw [toI_box hp8.len hs];omega
      have hw : wr .i64 (boxW a + boxW b) = boxW a + boxW b:=wr_id (by omega)
      simp only [hw,Bool.not_true,Bool.not_false,cond_false,and_self,if_true]
      by_cases h8 : 8 < boxW a + boxW b
      · rw [ilt_iff.2 h8,if_pos h8]
        simp [gd_true,h1,h2]
      · rw [ilt_false.2 (by omega),if_neg h8]
        obtain ⟨n,hn⟩ : ∃ n : Nat,boxW a + boxW b = n:=⟨(boxW a + boxW b).toNat,by omega⟩
        rw [hn]
        have hn8 : n ∈ List.range 9:=List.mem_range.2 (by omega)
        have hp : preT 9 (n:Int) (n:Int) [] a b []:=by
          refine ⟨by omega,by omega,by omega,by omega,by simp;omega,fun c hc=>?_,?_⟩
          · rw [gs_P n hn8] at hc
            obtain ⟨p,hp,rfl⟩:=List.mem_map.1 hc
            exact ⟨ha,hb,P_shape n hn8 p hp⟩
          · rw [gs_P n hn8,List.length_map]
            have:=P_len n hn8
            simp;omega
        simp [gd_true,h1,h2,hp]
set_option maxRecDepth 100000 in
theorem ok52 : con52.Ok Try.prog:=Con.of_goalS mixed (okC ok66 (okC ok86 okN)) (okS ok94 okS0) con52 goal52
end Go.Schur
namespace Go.Schur
open Go Go.Ab Go.Proofs
theorem sumQ_sub {f g : Nat → Int} : ∀ {n : Nat},sumQ (fun k=>f k - g k) n = sumQ f n - sumQ g n
  | 0=>rfl
  | n + 1=>by rw [sumQ,sumQ,sumQ,sumQ_sub];omega
theorem snoc_ind {A : Type} {Q : List A → Prop} (h0 : Q []) (h1 : ∀ R r,Q R → Q (R ++ [r])) : ∀ (n:Nat) (l : List A),l.length = n → Q l
  | 0,l,h=>by rw [List.length_eq_zero_iff.1 h];exact h0
  | n + 1,l,h=>by
    rcases List.eq_nil_or_concat l with rfl | ⟨R,r,rfl⟩
    · simp at h
    · rw [List.concat_eq_append] at *
      exact h1 R r (snoc_ind h0 h1 n R (by simpa using h))
theorem flat_sum {T : List (List Int)} : (T.flatten.length:Int) = sumQ (fun k=>((T.getD k []).length:Int)) T.length:=by
  refine snoc_ind (Q:=fun T : List (List Int)=>(T.flatten.length:Int) = sumQ (fun k=>((T.getD k []).length:Int)) T.length) rfl (fun R r ih=>?_) T.length T rfl
  rw [List.flatten_append,List.length_append,List.length_append,List.length_cons,List.length_nil,Nat.zero_add,sumQ,getD_app]
  rw [sumQ_congr (g:=fun k=>((R.getD k []).length:Int)) fun k hk=>by rw [getD_app_lt _ _ _ hk],← ih]
  simp
theorem list_sum {l : List Int} {m : Nat} (h : l.length ≤ m) : sumQ (fun k=>l.getD k 0) m = l.sum:=by
  have key : ∀ (l:List Int),∀ m,l.length ≤ m → sumQ (fun k=>l.getD k 0) m = l.sum:=by
    intro l
    refine snoc_ind (Q:=fun l : List Int=>∀ m,l.length ≤ m → sumQ (fun k=>l.getD k 0) m = l.sum) (fun m _=>?_) (fun l x ih=>?_) l.length l rfl
    · rw [sumQ_congr (g:=fun _=>0) fun k _=>by simp,sumQ_zero];rfl
    · intro m
      induction m with
      | zero=>intro h;simp at h
      | succ m ihm =>
        intro h
        simp only [List.length_append,List.length_cons,List.length_nil] at h
        rw [sumQ]
        by_cases e : m = l.length
        · subst e
          rw [sumQ_congr (g:=fun k=>l.getD k 0) fun k hk=>by simp [List.getD_eq_getElem?_getD,List.getElem?_append_left hk],ih _ (Nat.le_refl _)]
          simp [List.getD_eq_getElem?_getD]
        · rw [ihm (by simp;omega),show (l ++ [x]).getD m 0 = 0 by rw [List.getD_eq_getElem?_getD,List.getElem?_eq_none (by simp;omega)];rfl,Int.add_zero]
  exact key l m h
theorem tab_tot {a b c : List Int} {T : List (List Int)} (hl : a.length ≤ c.length) (hs : a.sum + b.sum = c.sum) (h : Tab a c b.length T) : (T.flatten.length:Int) = sumQ (fun k=>b.getD k 0) b.length:=by
  rw [flat_sum,list_sum (Nat.le_refl _),h.len,sumQ_congr (g:=fun k=>c.getD k 0 - a.getD k 0) fun k hk=>?_,sumQ_sub,list_sum (Nat.le_refl _),list_sum hl]
  · omega
  · have:=h.row k (by rw [h.len];exact hk)
    rw [rowF_natD,rowF_natD] at this
    omega
theorem catX_length {A : Type} {g : Int → List A} : ∀ {c : Nat} {x : Int},((catX g c x).length:Int) = sumX (fun y=>((g y).length:Int)) c x
  | 0,x=>rfl
  | c + 1,x=>by rw [catX,sumX,List.length_append,← catX_length];omega
theorem sumX_congr {f g : Int → Int} : ∀ {c : Nat} {x : Int},(∀ y,x ≤ y → y < x + c → f y = g y) → sumX f c x = sumX g c x
  | 0,x,_=>rfl
  | c + 1,x,h=>by rw [sumX,sumX,h x (by omega) (by omega),sumX_congr fun y h1 h2=>h y (by omega) (by omega)]
structure GrS (a c:List Int) (R:List (List Int)) (s:List Int) (grid:List (List Int)) : Prop where
  gl : grid.length = c.length
  gr : ∀ k : Nat,((grid.getD k []).length:Int) = rowF c k
  old : ∀ k j : Nat,k < R.length → rowF a k ≤ j → (j:Int) < rowF c k → grd grid k j = (R.getD k []).getD ((j:Int) - rowF a k).toNat 0
  new : ∀ t : Nat,t < s.length → grd grid R.length (rowF c R.length - s.length + t) = s.getD t 0
theorem grd_nat {T : List (List Int)} {i j : Nat} : grd T i j = (T.getD i []).getD j 0:=by unfold grd;rw [Int.toNat_natCast,Int.toNat_natCast]
theorem rows_set {T : List (List Int)} {i j k m : Nat} {x : Int} (hi : i < T.length) (hj : j < (T.getD i []).length) :
    ((T.set i ((T.getD i []).set j x)).getD k []).getD m 0 = if i = k ∧ j = m then x else (T.getD k []).getD m 0:=by
  by_cases h : i = k
  · subst h
    have : (T.set i ((T.getD i []).set j x)).getD i [] = (T.getD i []).set j x:=by simp [List.getD_eq_getElem?_getD,List.getElem?_set_self hi]
    rw [this,getD_setI hj]
    by_cases h2 : j = m
    · rw [if_pos h2,if_pos ⟨rfl,h2⟩]
    · rw [if_neg h2,if_neg (fun h=>h2 h.2)]
  · have : (T.set i ((T.getD i []).set j x)).getD k [] = T.getD k []:=by simp [List.getD_eq_getElem?_getD,List.getElem?_set_ne h]
    rw [this,if_neg (fun h2=>h h2.1)]
theorem refU_len {a b c : List Int} (hcd : ∀ k : Nat, rowF c (k + 1:Nat) ≤ rowF c k) : ∀ {n : Nat} {R : List (List Int)} {s came : List Int} {grid : List (List Int)}, StS a b c R s came → GrS a c R s grid →
    10 * (c.length - R.length) + (8 - s.length) < n → refU a b c n grid came R.length s.length = ((refZ a b c n R s came).length:Int)
  | 0,R,s,came,grid,h,hg,hm=>by omega
  | n + 1,R,s,came,grid,h,hg,hm=>by
    rw [refU,refZ]
    by_cases hR : R.length = c.length
    · rw [if_pos (by omega),if_pos hR];rfl
    · rw [if_neg (by omega),if_neg hR]
      have hlt : R.length < c.length:=by have:=h.len;omega
      have hsl:=h.sl hlt
      have hac:=h.ac R.length
      rw [Int.toNat_natCast,← rowF_natD]
      by_cases hc : rowF c R.length - 1 - s.length < rowF a R.length
      · rw [if_pos hc,if_pos hc]
        have hl : rowF a R.length + s.length = rowF c R.length:=by omega
        have e : ((R.length:Int) + 1) = ((R ++ [s]).length:Int):=by simp
        rw [e,show (0:Int) = (([]:List Int).length:Int) from rfl]
        refine refU_len hcd (h.close hlt hl) ⟨hg.gl,hg.gr,fun k j hk h1 h2=>?_,fun t ht=>by simp at ht⟩ (by simp only [List.length_append,List.length_cons,List.length_nil];omega)
        simp only [List.length_append,List.length_cons,List.length_nil] at hk
        by_cases e : k = R.length
        · subst e
          rw [getD_app]
          have:=hg.new ((j:Int) - rowF a R.length).toNat (by omega)
          rw [show rowF c R.length - s.length + (((j:Int) - rowF a R.length).toNat:Nat) = (j:Int) by omega] at this
          exact this
        · rw [getD_app_lt _ _ _ (by omega)];exact hg.old k j (by omega) h1 h2
      · rw [if_neg hc,if_neg hc,catX_length]
        refine sumX_congr fun x hx1 hx2=>?_
        generalize hj : (rowF c R.length - 1 - s.length).toNat = j
        have hjj : rowF c R.length - 1 - s.length = j:=by omega
        have h3 : (decide (0 < (s.length:Int)) && decide (grd grid R.length (rowF c R.length - 1 - s.length + 1) < x)) = true ↔ s ≠ [] ∧ s.headD 0 < x:=by
          cases s with
          | nil=>simp
          | cons z s =>
            have:=hg.new 0 (by simp)
            rw [show rowF c R.length - ((z :: s).length:Int) + ((0:Nat):Int) = rowF c R.length - 1 - ((z :: s).length:Int) + 1 by omega] at this
            rw [this]
            simp
        have h4 : (decide (0 < (R.length:Int)) && (decide (rowF a ((R.length:Int) - 1) ≤ rowF c R.length - 1 - s.length) && decide (x ≤ grd grid ((R.length:Int) - 1) (rowF c R.length - 1 - s.length)))) = true ↔ x ≤ atF a R ((R.length:Int) - 1) (rowF c R.length - 1 - s.length):=by
          rw [hjj]
          by_cases h0 : 0 < R.length
          · obtain ⟨q,hq⟩ : ∃ q,R.length = q + 1:=⟨R.length - 1,by omega⟩
            have e1 : ((R.length:Int) - 1) = (q:Int):=by omega
            have hcq:=hcd q
            rw [e1]
            unfold atF
            by_cases h5 : rowF a q ≤ j
            · rw [if_neg (by omega),hg.old q j (by omega) h5 (by rw [hq] at hjj hac;omega),Int.toNat_natCast]
              simp [h5,h0]
            · rw [if_pos (by omega)]
              simp [h5];omega
          · rw [show ((R.length:Int) - 1) = -1 by omega]
            simp [atF,h0];omega
        have hst : stopX a b grid came R.length (rowF c R.length - 1 - s.length) s.length x = true ↔ (came.getD (x - 1).toNat 0 = b.getD (x - 1).toNat 0 ∨ (1 < x ∧ came.getD (x - 2).toNat 0 < came.getD (x - 1).toNat 0 + 1) ∨ (s ≠ [] ∧ s.headD 0 < x) ∨ x ≤ atF a R ((R.length:Int) - 1) (rowF c R.length - 1 - s.length)):=by
          unfold stopX
          rw [Bool.or_eq_true,Bool.or_eq_true,Bool.or_eq_true,h3,h4,Bool.and_eq_true,decide_eq_true_iff,decide_eq_true_iff,decide_eq_true_iff,or_assoc,or_assoc]
        by_cases hs : stopX a b grid came R.length (rowF c R.length - 1 - s.length) s.length x = true
        · rw [if_pos hs,if_pos (hst.1 hs)];rfl
        · rw [if_neg hs,if_neg (fun h=>hs (hst.2 h))]
          obtain ⟨k1,k2⟩:=not_or.1 (fun h=>hs (hst.2 h))
          obtain ⟨k2,k3⟩:=not_or.1 k2
          obtain ⟨k3,k4⟩:=not_or.1 k3
          have h':=h.push hx1 (by omega) ⟨hlt,by omega⟩ k1 k2 k3 (by rw [← rowF_natD];exact k4)
          rw [show (s.length:Int) + 1 = ((x :: s).length:Int) by simp]
          have hjl : j < (grid.getD R.length []).length:=by have:=hg.gr R.length;omega
          have hil : R.length < grid.length:=by rw [hg.gl];exact hlt
          refine refU_len hcd h' ⟨by rw [List.length_set];exact hg.gl,fun k=>?_,fun k m hk h1 h2=>?_,fun t ht=>?_⟩ (by simp only [List.length_cons];omega)
          · rw [← hg.gr k]
            by_cases e : R.length = k
            · subst e;simp [List.getD_eq_getElem?_getD,List.getElem?_set_self hil]
            · simp [List.getD_eq_getElem?_getD,List.getElem?_set_ne e]
          · rw [grd_nat,rows_set hil hjl,if_neg (fun h=>by omega),← grd_nat]
            exact hg.old k m hk h1 h2
          · obtain ⟨m,hm⟩ : ∃ m : Nat,rowF c R.length - ((x :: s).length:Int) + (t:Int) = m:=⟨(rowF c R.length - ((x :: s).length:Int) + (t:Int)).toNat,by simp only [List.length_cons];omega⟩
            rw [hm,grd_nat,rows_set hil hjl]
            simp only [List.length_cons] at hm
            cases t with
            | zero=>rw [if_pos ⟨rfl,by omega⟩];rfl
            | succ t =>
              rw [if_neg (fun h=>by omega),← grd_nat]
              have:=hg.new t (by simpa using ht)
              rw [show rowF c R.length - (s.length:Int) + (t:Int) = (m:Int) by omega] at this
              rw [this];rfl
theorem shape_b8 {b : List Int} (h : shapeB b = true) (k:Nat) : 0 ≤ b.getD k 0 ∧ b.getD k 0 ≤ 8:=by
  have:=shape_row h k
  rw [rowF_natD] at this
  exact ⟨this.1,this.2.1⟩
theorem shape_sum {b : List Int} (h : shapeB b = true) : boxW b = b.sum ∧ 0 ≤ b.sum ∧ b.sum ≤ 8 ∧ b.length ≤ 8:=by
  obtain ⟨p,hp,rfl,hp8,_,hs⟩:=shape_allP h
  rw [toI_box hp8.len hs,toI_sum]
  exact ⟨rfl,by omega,by omega,(shapeB_iff.1 h).1⟩
theorem shape_pos {a : List Int} (h : shapeB a = true) {k : Nat} (hk : k < a.length) : 1 ≤ a.getD k 0:=by
  obtain ⟨p,hp,rfl,hp8,h1,hs⟩:=shape_allP h
  rw [toI_get]
  have hk' : k < p.length:=by simpa [toI] using hk
  have:=h1 (p.getD k 0) (by rw [List.getD_eq_getElem?_getD,List.getElem?_eq_getElem hk'];exact List.getElem_mem hk')
  omega
theorem ins_len {a c : List Int} (ha : shapeB a = true) (hc : shapeB c = true) (h : insB a c = true) : a.length ≤ c.length:=by
  rcases Nat.lt_or_ge c.length a.length with h1 | h1
  · exfalso
    have h2:=(ins_iff fun i=>(shape_row hc i).1).1 h c.length
    have h3:=shape_pos ha h1
    rw [rowF_natD,rowF_natD,List.getD_eq_getElem?_getD (l:=c),List.getElem?_eq_none (Nat.le_refl _)] at h2
    simp only [Option.getD_none] at h2
    omega
  · exact h1
theorem rep_getD {n i : Nat} : (List.replicate n (0:Int)).getD i 0 = 0:=by
  rw [List.getD_eq_getElem?_getD,List.getElem?_replicate];split <;> rfl
theorem stS0 {a b c : List Int} (ha : shapeB a = true) (hb : shapeB b = true) (hc : shapeB c = true) (h : insB a c = true) : StS a b c [] [] (List.replicate b.length 0) where
  bl:=(shapeB_iff.1 hb).1
  b8:=shape_b8 hb
  ac:=fun k=>⟨(shape_row ha k).1,(ins_iff fun i=>(shape_row hc i).1).1 h k,(shape_row hc k).2.1⟩
  len:=Nat.zero_le _
  fin:=fun _=>rfl
  row:=fun k hk=>by simp at hk
  sl:=fun _=>by
    have:=(ins_iff fun i=>(shape_row hc i).1).1 h 0
    show ((0:Nat):Int) ≤ rowF c ((0:Nat):Int) - rowF a ((0:Nat):Int)
    omega
  ent:=fun r hr=>nomatch hr
  ens:=fun r hr=>nomatch hr
  ord:=fun i j hi=>by simp at hi
  srt:=List.Pairwise.nil
  abv:=fun t ht=>by simp at ht
  ml:=by simp
  cam:=fun x h1 h2=>by
    rw [rep_getD];simp [cnt]
  cle:=fun x h1 h2=>by
    have:=(shape_b8 hb (x - 1).toNat).1
    rw [rep_getD]
    exact this
  lat:=by
    refine ⟨List.replicate 9 0,rfl,rfl,fun x h1 h2=>?_⟩
    rw [rep_getD,rep_getD]
theorem grS0 {a c : List Int} (hc : shapeB c = true) : GrS a c [] [] (grid0 c) where
  gl:=by simp [grid0]
  gr:=fun k=>by
    rw [rowF_natD]
    unfold grid0
    by_cases h : k < c.length
    · have:=(shape_b8 hc k).1
      rw [List.getD_eq_getElem?_getD,List.getElem?_eq_getElem h] at this
      simp only [Option.getD_some] at this
      simp [List.getD_eq_getElem?_getD,List.getElem?_eq_getElem h];omega
    · simp [List.getD_eq_getElem?_getD,List.getElem?_eq_none (show c.length ≤ k by omega)]
  old:=fun k j hk=>by simp at hk
  new:=fun t ht=>by simp at ht
theorem rule_ref {a b c : List Int} (h3 : sh3 a b c) : refR a b c = ruleF a b c:=by
  obtain ⟨ha,hb,hc⟩:=h3
  have sa:=shape_sum ha
  have sb:=shape_sum hb
  have sc:=shape_sum hc
  have hw : wr .i64 (boxW c - boxW a) = boxW c - boxW a:=wr_id (by omega)
  unfold refR ruleF eachL
  rw [hw]
  by_cases hi : insB a c = true
  · by_cases hs : boxW a + boxW b = boxW c
    · rw [if_pos ⟨hs,hi⟩,if_pos hi,if_pos (by omega)]
      have hlen:=ins_len ha hc hi
      have htot : ∀ T,Tab a c b.length T → (T.flatten.length:Int) = sumQ (fun k=>b.getD k 0) b.length:=fun T hT=>tab_tot hlen (by omega) hT
      have hst:=stS0 ha hb hc hi
      have hc8:=sc.2.2.2
      have h1:=refU_len (n:=100) (fun k=>(shape_row hc k).2.2) hst (grS0 hc) (by simp;omega)
      simp only [List.length_nil] at h1
      rw [show ((0:Nat):Int) = 0 from rfl] at h1
      rw [h1]
      unfold filL
      congr 1
      have hok:=okIn_of ha hc (shape_cont hb) ((ins_iff fun i=>(shape_row hc i).1).1 hi)
      have hsum : Sums a c b b.length [] (sumN b):=⟨fun T hT=>by
        have:=htot T hT
        rw [list_sum (Nat.le_refl _),← sumN_eq fun x hx=>(hok.m8 x hx).1] at this
        omega,by simp⟩
      refine (List.Perm.length_eq ?_)
      refine (List.perm_ext_iff_of_nodup (refZ_nodup htot hst (by simp;omega)) (fil_nodup.filter _)).2 fun T=>?_
      rw [refZ_iff htot hst (by simp;omega),List.mem_filter,fil_iff hok.pre (fun i j hi=>by simp at hi) (fun _=>hsum)]
      have hgo : GoS c [] [] T ↔ (c.length = 0 → T = []) ∧ (0 < c.length → T ≠ []):=by
        unfold GoS
        simp only [List.length_nil,List.nil_append,List.append_nil]
        constructor
        · rintro (⟨h0,rfl⟩ | ⟨h0,p,U,rfl⟩)
          · exact ⟨fun _=>rfl,fun h=>by omega⟩
          · exact ⟨fun h=>by omega,fun _=>by simp⟩
        · rintro ⟨g1,g2⟩
          by_cases h0 : c.length = 0
          · exact .inl ⟨h0.symm,g1 h0⟩
          · refine .inr ⟨by omega,?_⟩
            cases T with
            | nil=>exact absurd rfl (g2 (by omega))
            | cons p U=>exact ⟨p,U,rfl⟩
      have hgo2 : Tab a c b.length T → GoS c [] [] T:=fun hT=>hgo.2 ⟨fun h0=>List.length_eq_zero_iff.1 (by rw [hT.len];exact h0),fun h0 h=>by have:=hT.len;rw [h] at this;simp at this;omega⟩
      unfold Full Left latI
      constructor
      · rintro ⟨⟨g1,g2,g3⟩,_⟩
        exact ⟨⟨g1,.nil _,fun _ x hx1 hx2=>by rw [← g2 x hx1 hx2];simp [cnt]⟩,g3⟩
      · rintro ⟨⟨g1,_,g2⟩,g3⟩
        refine ⟨⟨g1,fun x hx1 hx2=>?_,g3⟩,hgo2 g1⟩
        have:=g2 rfl x hx1 hx2
        simp [cnt] at this ⊢
        omega
    · rw [if_neg (fun h=>hs h.1),if_pos hi,if_neg (by omega)]
  · rw [if_neg (fun h=>hi h.2),if_neg hi]
end Go.Schur
namespace Go.Schur
open Go Go.Ab Go.Proofs
section
variable {n : Nat} {a b c : List Int} {grid : List (List Int)} {came : List Int} {i gone : Int}
theorem preU.next (h : preU (n + 1) a b c grid came i gone) (hi : i < c.length) : preU n a b c grid came (i + 1) 0:=by
  have h0:=h.i0.1
  have hm:=h.mu
  refine { h with i0:=⟨by omega,by omega⟩,g0:=⟨Int.le_refl _,fun hlt=>?_⟩,mu:=by omega }
  have h1:=h.ac (i + 1).toNat
  rw [show (((i + 1).toNat:Nat):Int) = i + 1 by omega] at h1
  unfold rowF at h1 ⊢
  rw [if_neg (by omega)] at h1 ⊢
  rw [if_neg (by omega)] at h1
  omega
theorem preU.box {x : Int} (h : preU (n + 1) a b c grid came i gone) (hi : i < c.length) (hj : rowF a i ≤ c.getD i.toNat 0 - 1 - gone) (h1 : 1 ≤ x) (hx : x ≤ b.length) (hne : came.getD (x - 1).toNat 0 ≠ b.getD (x - 1).toNat 0) :
    preU n a b c (grid.set i.toNat ((grid.getD i.toNat []).set (c.getD i.toNat 0 - 1 - gone).toNat x)) (came.set (x - 1).toNat (came.getD (x - 1).toNat 0 + 1)) i (gone + 1):=by
  have h0:=h.i0.1
  have hm:=h.mu
  have hg:=h.g0
  have hl:=h.gl
  have hc8:=h.c8 i.toNat
  rw [rowF_natD] at hc8
  have ha0:=h.a0 i.toNat
  rw [show ((i.toNat:Nat):Int) = i by omega] at ha0
  refine { h with ml:=by rw [List.length_set];exact h.ml,m8:=fun k=>?_,gl:=by rw [List.length_set];exact h.gl,gr:=fun k=>?_,g0:=⟨by omega,fun _=>by omega⟩,mu:=by omega }
  · have hml:=h.ml
    rw [getD_setI (by omega)]
    split
    · rename_i e
      have:=h.m8 (x - 1).toNat
      rw [← e];omega
    · exact h.m8 k
  · rw [← h.gr k]
    by_cases e : i.toNat = k
    · subst e;simp [List.getD_eq_getElem?_getD,List.getElem?_set_self (show i.toNat < grid.length by omega)]
    · simp [List.getD_eq_getElem?_getD,List.getElem?_set_ne e]
end
end Go.Schur
namespace Go.Schur
open Go Go.Ab Go.Proofs
def eqT (a b : TermD) : Bool:=decide (a.1 = b.1) && decide (a.2.1 = b.2.1)
end Go.Schur
namespace Go.Schur
open Go Go.Ab Go.Proofs
theorem shapes_mem {n : Int} (h0 : 0 ≤ n) (h8 : n ≤ 8) {c : List Int} (hc : c ∈ shapesF n) : shapeB c = true:=by
  obtain ⟨p,hp,rfl⟩:=List.mem_map.1 hc
  exact P_shape n.toNat (List.mem_range.2 (by omega)) p hp
theorem shapes_len {n : Int} (h0 : 0 ≤ n) (h8 : n ≤ 8) : (shapesF n).length ≤ 22:=by
  unfold shapesF
  rw [List.length_map]
  exact P_len n.toNat (List.mem_range.2 (by omega))
theorem gs_shapes {n : Int} (h0 : 0 ≤ n) (h8 : n ≤ 8) : gsF 9 n n [] = shapesF n:=by
  have:=gs_P n.toNat (List.mem_range.2 (by omega))
  rw [show ((n.toNat:Nat):Int) = n by omega] at this
  exact this
theorem prod_take {a b : List Int} : prodF (a.take 12) (b.take 12) = prodF a b:=by
  unfold prodF
  rw [shape_take,shape_take]
  by_cases h : shapeB a = true ∧ shapeB b = true
  · rw [if_pos h,if_pos h,shape_take_id h.1,shape_take_id h.2]
  · rw [if_neg h,if_neg h]
theorem prod_ok {a b : List Int} (ha : shapeB a = true) (hb : shapeB b = true) : prodF a b = if 8 < boxW a + boxW b then ([],6,()) else (termsF a b (shapesF (boxW a + boxW b)),0,()):=by
  have sa:=shape_sum ha
  have sb:=shape_sum hb
  unfold prodF
  rw [if_pos ⟨ha,hb⟩]
  by_cases h : 8 < boxW a + boxW b
  · rw [if_pos h,if_pos h]
  · rw [if_neg h,if_neg h,gs_shapes (by omega) (by omega)]
end Go.Schur
