/- Rule and Product: contracts. -/
import Derived.Test.YtobghbapmlnmoaaXV
import Derived.Test.YtobghbapmlnmoaaXC
import Derived.Test.YtobghbapmlnmoaaXD
import Derived.Test.YtobghbapmlnmoaaXI
import Derived.Test.YtobghbapmlnmoaaXG
import Derived.Shelf.Sort.Plain
import Derived.Shelf.Slices.In.SortNone2
import Derived.Test.YtobghbapmlnmoaaProg
import Derived.Test.YtobghbapmlnmoaaAT
import Derived.Sort.OwnSortedInts
set_option maxRecDepth 100000
set_option linter.unusedVariables false
set_option linter.unusedSimpArgs false
namespace Go.Schur
noncomputable section
open Go Go.Ab Go.Proofs
def latN (rows:List (List Int)):Int:=bif latI rows then 1 else 0
def qk4:SCon:=mkS 109 [.slf 0 1,.ref 1 1 0 0,.ref 2 1 0 0] (P109 116) [.v .bool] (P109 116) (fun (rows:List (List Int)) (out:Int)=>[ent8 rows∧0≤out∧out≤500000000]) (fun (rows:List (List Int)) (out:Int)=>(true,rows,out+latN rows,()))
def zco (x0:List (List Int)) (x1:Int):Option (Bool×List (List Int)×Int×Unit):=gd (0+List.length x0≤List.length x0) (gd (ent8 (List.take (List.length x0) (List.drop 0 x0))) (bif latI (List.take (List.length x0) (List.drop 0 x0)) then some ((true,x0,wr .i64 (x1+1),()):Bool×List (List Int)×Int×Unit) else some ((true,x0,x1,()):Bool×List (List Int)×Int×Unit)))
def qyr:List LSh:=([]:List LSh)
def filL (inner outer:List Int) (most:Int) (n:Nat) (left:List Int) (rows:List (List Int)):Int:=((fil inner outer most false n left rows).filter latI).length
def qht (n:Nat):SCon:=mkS 77 [.ref 0 1 0 0,F109 1] (P77b 116) [.v .bool] (Q77b 116) (fun (inner outer:List Int) (most:Int) (out:Int) (left:List Int) (rows:List (List Int))=>[preB n inner outer left most rows out]) (fun (inner outer:List Int) (most:Int) (out:Int) (left:List Int) (rows:List (List Int))=>(true,inner,outer,most,out+filL inner outer most n left rows,left,rows,()))
def qh9 (x0:List Int) (x5:List (List Int)):Int:=wr .i64 (rowF x0 (wr .i64 ((↑(List.length x5):Int)-1))+(↑(List.length (List.getD x5 (0+Int.toNat (wr .i64 ((↑(List.length x5):Int)-1))) ([]:List Int))):Int))
def qr6 (x0 x1:List Int) (x5:List (List Int)):Bool:=bif ilt (wr .i64 ((↑(List.length x5):Int)-1)) 0 then true else ieq (qh9 x0 x5) (rowF x1 (wr .i64 ((↑(List.length x5):Int)-1)))
def qru (x0:List Int) (x5:List (List Int)):Int:=atF x0 (List.take (List.length x5) (List.drop 0 x5)) (wr .i64 (wr .i64 ((↑(List.length x5):Int)-1)-1)) (qh9 x0 x5)
def qwv (x5:List (List Int)):Bool:=ilt 0 (↑(List.length (List.getD x5 (0+Int.toNat (wr .i64 ((↑(List.length x5):Int)-1))) ([]:List Int))):Int)
def qvw (x0:List Int) (x5:List (List Int)):Int:=atF x0 (List.take (List.length x5) (List.drop 0 x5)) (wr .i64 ((↑(List.length x5):Int)-1)) (wr .i64 (qh9 x0 x5-1))
def qox (d7:Int×List Int×List Int×Int×Int×List Int×List (List Int)×Unit):Bool:=ieq (List.getD d7.2.2.2.2.2.1 (0+Int.toNat (wr .i64 (d7.1-1))) 0) 0
def qdh (d7:Int×List Int×List Int×Int×Int×List Int×List (List Int)×Unit):Int:=wr .i64 (List.getD d7.2.2.2.2.2.1 (0+Int.toNat (wr .i64 (d7.1-1))) (0:Int)-1)
def qhi (x5:List (List Int)) (d7:Int×List Int×List Int×Int×Int×List Int×List (List Int)×Unit):Int:=(↑(List.length (List.getD (List.set d7.2.2.2.2.2.2.1 (0+Int.toNat (wr .i64 ((↑(List.length x5):Int)-1))) (List.take (List.length (List.getD d7.2.2.2.2.2.2.1 (0+Int.toNat (wr .i64 ((↑(List.length x5):Int)-1))) ([]:List Int))) (List.getD d7.2.2.2.2.2.2.1 (0+Int.toNat (wr .i64 ((↑(List.length x5):Int)-1))) ([]:List Int))++d7.1::([]:List Int))) (0+Int.toNat (wr .i64 ((↑(List.length x5):Int)-1))) ([]:List Int))):Int)
def qlk (d7:Int×List Int×List Int×Int×Int×List Int×List (List Int)×Unit):Int:=List.getD (List.set d7.2.2.2.2.2.1 (0+Int.toNat (wr .i64 (d7.1-1))) (qdh d7)) (0+Int.toNat (wr .i64 (d7.1-1))) 0
def qny (d7:Int×List Int×List Int×Int×Int×List Int×List (List Int)×Unit):Bool:=ieq (List.getD d7.2.2.2.2.2.1 (0+Int.toNat (wr .i64 (d7.1-1))) 0) 0
def qcg (d7:Int×List Int×List Int×Int×Int×List Int×List (List Int)×Unit):Int:=wr .i64 (List.getD d7.2.2.2.2.2.1 (0+Int.toNat (wr .i64 (d7.1-1))) (0:Int)-1)
def qe9 (x5:List (List Int)) (d7:Int×List Int×List Int×Int×Int×List Int×List (List Int)×Unit):Int:=(↑(List.length (List.getD (List.set d7.2.2.2.2.2.2.1 (0+Int.toNat (wr .i64 ((↑(List.length x5):Int)-1))) (List.take (List.length (List.getD d7.2.2.2.2.2.2.1 (0+Int.toNat (wr .i64 ((↑(List.length x5):Int)-1))) ([]:List Int))) (List.getD d7.2.2.2.2.2.2.1 (0+Int.toNat (wr .i64 ((↑(List.length x5):Int)-1))) ([]:List Int))++d7.1::([]:List Int))) (0+Int.toNat (wr .i64 ((↑(List.length x5):Int)-1))) ([]:List Int))):Int)
def qik (d7:Int×List Int×List Int×Int×Int×List Int×List (List Int)×Unit):Int:=List.getD (List.set d7.2.2.2.2.2.1 (0+Int.toNat (wr .i64 (d7.1-1))) (qcg d7)) (0+Int.toNat (wr .i64 (d7.1-1))) 0
open List Int in
def g77c (n:Nat) (x0 x1:List Int) (x2 x3:Int) (x4:List Int) (x5:List (List Int)):Option (Bool×List Int×List Int×Int×Int×List Int×List (List Int)×Unit):=gd ((!ilt (wr .i64 ((↑(length x5):Int)-1)) 0)=true→(!ilt (wr .i64 ((↑(length x5):Int)-1)) 0)=true) (gd ((!ilt (wr .i64 ((↑(length x5):Int)-1)) 0)=true→(!ilt (wr .i64 ((↑(length x5):Int)-1)) 0)=true) (gd ((!ilt (wr .i64 ((↑(length x5):Int)-1)) 0)=true→(!ilt (wr .i64 ((↑(length x5):Int)-1)) 0)=true) (gd ((!ilt (wr .i64 ((↑(length x5):Int)-1)) 0)=true→(!ilt (wr .i64 ((↑(length x5):Int)-1)) 0)=true∧(!ilt (wr .i64 ((↑(length x5):Int)-1)) 0)=true∧0≤wr .i64 ((↑(length x5):Int)-1)∧length x0≤1000) (gd ((!ilt (wr .i64 ((↑(length x5):Int)-1)) 0)=true→(!ilt (wr .i64 ((↑(length x5):Int)-1)) 0)=true) (gd ((!ilt (wr .i64 ((↑(length x5):Int)-1)) 0)=true→(!ilt (wr .i64 ((↑(length x5):Int)-1)) 0)=true) (gd ((!ilt (wr .i64 ((↑(length x5):Int)-1)) 0)=true→(!ilt (wr .i64 ((↑(length x5):Int)-1)) 0)=true) (gd ((!ilt (wr .i64 ((↑(length x5):Int)-1)) 0)=true→(!ilt (wr .i64 ((↑(length x5):Int)-1)) 0)=true∧(!ilt (wr .i64 ((↑(length x5):Int)-1)) 0)=true∧0≤wr .i64 ((↑(length x5):Int)-1)∧wr .i64 ((↑(length x5):Int)-1)<(↑(length x5):Int)) (gd ((!ilt (wr .i64 ((↑(length x5):Int)-1)) 0)=true→(!ilt (wr .i64 ((↑(length x5):Int)-1)) 0)=true∧0+toNat (wr .i64 ((↑(length x5):Int)-1))<length x5) (gd ((!ilt (wr .i64 ((↑(length x5):Int)-1)) 0)=true→(!ilt (wr .i64 ((↑(length x5):Int)-1)) 0)=true) (gd ((!ilt (wr .i64 ((↑(length x5):Int)-1)) 0)=true→(!ilt (wr .i64 ((↑(length x5):Int)-1)) 0)=true∧(!ilt (wr .i64 ((↑(length x5):Int)-1)) 0)=true) (gd ((!ilt (wr .i64 ((↑(length x5):Int)-1)) 0)=true→(!ilt (wr .i64 ((↑(length x5):Int)-1)) 0)=true) (gd ((!ilt (wr .i64 ((↑(length x5):Int)-1)) 0)=true→(!ilt (wr .i64 ((↑(length x5):Int)-1)) 0)=true) (gd ((!ilt (wr .i64 ((↑(length x5):Int)-1)) 0)=true→(!ilt (wr .i64 ((↑(length x5):Int)-1)) 0)=true) (gd ((!ilt (wr .i64 ((↑(length x5):Int)-1)) 0)=true→(!ilt (wr .i64 ((↑(length x5):Int)-1)) 0)=true∧(!ilt (wr .i64 ((↑(length x5):Int)-1)) 0)=true∧0≤wr .i64 ((↑(length x5):Int)-1)∧length x1≤1000) (gd ((!ilt (wr .i64 ((↑(length x5):Int)-1)) 0)=true→(!ilt (wr .i64 ((↑(length x5):Int)-1)) 0)=true∧(!ilt (wr .i64 ((↑(length x5):Int)-1)) 0)=true) (gd (ilt (wr .i64 ((↑(length x5):Int)-1)) 0=false→(!ilt (wr .i64 ((↑(length x5):Int)-1)) 0)=true) (bif qr6 x0 x1 x5 then bif ieq (wr .i64 (wr .i64 ((↑(length x5):Int)-1)+1)) (↑(length x1):Int) then gd (length x5=length x5) (gd (ent8 x5∧0≤x3∧x3≤500000000) (gd (length x4=length x4) (gd (length x5=length x5) (some ((true,x0,x1,x2,x3+latN x5,x4,x5,()):Bool×List Int×List Int×Int×Int×List Int×List (List Int)×Unit))))) else gd ((0:Nat)=0) (gd (length x5≤length x5) (gd ((length x5+1)*(24:Nat)≤1099511627776) (gd (length x4=length x4) (gd (length x5+1=length (take (length x5) x5++([]:List Int)::([]:List (List Int)))) (gd (preB n x0 x1 x4 x2 (take (length x5) x5++([]:List Int)::([]:List (List Int))) x3) (gd (0≤wr .i64 (wr .i64 ((↑(length x5):Int)-1)+1)∧wr .i64 (wr .i64 ((↑(length x5):Int)-1)+1)≤(↑(length (take (length x5) x5++([]:List Int)::([]:List (List Int)))):Int)) (gd (length x4=length x4) (gd (toNat (wr .i64 (wr .i64 ((↑(length x5):Int)-1)+1))=length (take (toNat (wr .i64 (wr .i64 ((↑(length x5):Int)-1)+1))) (take (length x5) x5++([]:List Int)::([]:List (List Int))))) (some ((true,x0,x1,x2,x3+filL x0 x1 x2 n x4 (take (length x5) x5++([]:List Int)::([]:List (List Int))),x4,take (toNat (wr .i64 (wr .i64 ((↑(length x5):Int)-1)+1))) (take (length x5) x5++([]:List Int)::([]:List (List Int))),()):Bool×List Int×List Int×Int×Int×List Int×List (List Int)×Unit)))))))))) else gd (0≤wr .i64 ((↑(length x5):Int)-1)∧length x0≤1000) (gd (0≤wr .i64 ((↑(length x5):Int)-1)∧wr .i64 ((↑(length x5):Int)-1)<(↑(length x5):Int)) (gd (0+toNat (wr .i64 ((↑(length x5):Int)-1))<length x5) (gd (0+length x4≤length x4) (gd (0+length x5≤length x5) (gd (atP x0 (take (length x5) (drop 0 x5)) (wr .i64 (wr .i64 ((↑(length x5):Int)-1)-1)) (qh9 x0 x5)) (gd (0≤wr .i64 ((↑(length x5):Int)-1)∧wr .i64 ((↑(length x5):Int)-1)<(↑(length x5):Int)) (gd (0+toNat (wr .i64 ((↑(length x5):Int)-1))<length x5) (bif qwv x5 then gd (0+length x4≤length x4) (gd (0+length x5≤length x5) (gd (atP x0 (take (length x5) (drop 0 x5)) (wr .i64 ((↑(length x5):Int)-1)) (wr .i64 (qh9 x0 x5-1))) (gd (length x4=length x4) (gd (length x5=length x5) (qat (fun (d7:Int×List Int×List Int×Int×Int×List Int×List (List Int)×Unit)=>bif ile d7.1 d7.2.2.2.1 then gd (¬length d7.2.2.2.2.2.1=0) (gd (0≤wr .i64 (d7.1-1)∧wr .i64 (d7.1-1)<(↑(length d7.2.2.2.2.2.1):Int)) (gd (0+toNat (wr .i64 (d7.1-1))<length d7.2.2.2.2.2.1) (bif qox d7 then gd (length d7.2.2.2.2.2.1=length d7.2.2.2.2.2.1) (gd (length d7.2.2.2.2.2.2.1=length d7.2.2.2.2.2.2.1) (some (Lp.go ((wr .i64 (d7.1+1),d7.2.1,d7.2.2.1,d7.2.2.2.1,d7.2.2.2.2.1,d7.2.2.2.2.2.1,d7.2.2.2.2.2.2.1,()):Int×List Int×List Int×Int×Int×List Int×List (List Int)×Unit)))) else gd (0≤wr .i64 (d7.1-1)∧wr .i64 (d7.1-1)<(↑(length d7.2.2.2.2.2.1):Int)) (gd (0+toNat (wr .i64 (d7.1-1))<length d7.2.2.2.2.2.1) (gd (0≤wr .i64 (d7.1-1)∧wr .i64 (d7.1-1)<(↑(length d7.2.2.2.2.2.1):Int)) (gd (0+toNat (wr .i64 (d7.1-1))<length d7.2.2.2.2.2.1) (gd (0≤wr .i64 ((↑(length x5):Int)-1)∧wr .i64 ((↑(length x5):Int)-1)<(↑(length d7.2.2.2.2.2.2.1):Int)) (gd (0+toNat (wr .i64 ((↑(length x5):Int)-1))<length d7.2.2.2.2.2.2.1) (gd (0+toNat (wr .i64 ((↑(length x5):Int)-1))<length d7.2.2.2.2.2.2.1) (gd (length (getD d7.2.2.2.2.2.2.1 (0+toNat (wr .i64 ((↑(length x5):Int)-1))) ([]:List Int))≤length (getD d7.2.2.2.2.2.2.1 (0+toNat (wr .i64 ((↑(length x5):Int)-1))) ([]:List Int))) (gd ((length (getD d7.2.2.2.2.2.2.1 (0+toNat (wr .i64 ((↑(length x5):Int)-1))) ([]:List Int))+1)*(8:Nat)≤1099511627776) (gd (0≤wr .i64 ((↑(length x5):Int)-1)∧wr .i64 ((↑(length x5):Int)-1)<(↑(length d7.2.2.2.2.2.2.1):Int)) (gd (0+toNat (wr .i64 ((↑(length x5):Int)-1))<length (List.set d7.2.2.2.2.2.2.1 (0+toNat (wr .i64 ((↑(length x5):Int)-1))) (take (length (getD d7.2.2.2.2.2.2.1 (0+toNat (wr .i64 ((↑(length x5):Int)-1))) ([]:List Int))) (getD d7.2.2.2.2.2.2.1 (0+toNat (wr .i64 ((↑(length x5):Int)-1))) ([]:List Int))++d7.1::([]:List Int)))) (gd (0+toNat (wr .i64 ((↑(length x5):Int)-1))=0+toNat (wr .i64 ((↑(length x5):Int)-1))) (gd (0+toNat (wr .i64 ((↑(length x5):Int)-1))=0+toNat (wr .i64 ((↑(length x5):Int)-1))) (gd (length (getD d7.2.2.2.2.2.2.1 (0+toNat (wr .i64 ((↑(length x5):Int)-1))) ([]:List Int))+1=length (getD (List.set d7.2.2.2.2.2.2.1 (0+toNat (wr .i64 ((↑(length x5):Int)-1))) (take (length (getD d7.2.2.2.2.2.2.1 (0+toNat (wr .i64 ((↑(length x5):Int)-1))) ([]:List Int))) (getD d7.2.2.2.2.2.2.1 (0+toNat (wr .i64 ((↑(length x5):Int)-1))) ([]:List Int))++d7.1::([]:List Int))) (0+toNat (wr .i64 ((↑(length x5):Int)-1))) ([]:List Int))) (gd (length d7.2.2.2.2.2.1=length (List.set d7.2.2.2.2.2.1 (0+toNat (wr .i64 (d7.1-1))) (qdh d7))) (gd (length d7.2.2.2.2.2.2.1=length (List.set d7.2.2.2.2.2.2.1 (0+toNat (wr .i64 ((↑(length x5):Int)-1))) (take (length (getD d7.2.2.2.2.2.2.1 (0+toNat (wr .i64 ((↑(length x5):Int)-1))) ([]:List Int))) (getD d7.2.2.2.2.2.2.1 (0+toNat (wr .i64 ((↑(length x5):Int)-1))) ([]:List Int))++d7.1::([]:List Int)))) (gd (preB n d7.2.1 d7.2.2.1 (List.set d7.2.2.2.2.2.1 (0+toNat (wr .i64 (d7.1-1))) (qdh d7)) d7.2.2.2.1 (List.set d7.2.2.2.2.2.2.1 (0+toNat (wr .i64 ((↑(length x5):Int)-1))) (take (length (getD d7.2.2.2.2.2.2.1 (0+toNat (wr .i64 ((↑(length x5):Int)-1))) ([]:List Int))) (getD d7.2.2.2.2.2.2.1 (0+toNat (wr .i64 ((↑(length x5):Int)-1))) ([]:List Int))++d7.1::([]:List Int))) d7.2.2.2.2.1) (gd (0≤wr .i64 ((↑(length x5):Int)-1)∧wr .i64 ((↑(length x5):Int)-1)<(↑(length (List.set d7.2.2.2.2.2.2.1 (0+toNat (wr .i64 ((↑(length x5):Int)-1))) (take (length (getD d7.2.2.2.2.2.2.1 (0+toNat (wr .i64 ((↑(length x5):Int)-1))) ([]:List Int))) (getD d7.2.2.2.2.2.2.1 (0+toNat (wr .i64 ((↑(length x5):Int)-1))) ([]:List Int))++d7.1::([]:List Int)))):Int)) (gd (0+toNat (wr .i64 ((↑(length x5):Int)-1))<length (List.set d7.2.2.2.2.2.2.1 (0+toNat (wr .i64 ((↑(length x5):Int)-1))) (take (length (getD d7.2.2.2.2.2.2.1 (0+toNat (wr .i64 ((↑(length x5):Int)-1))) ([]:List Int))) (getD d7.2.2.2.2.2.2.1 (0+toNat (wr .i64 ((↑(length x5):Int)-1))) ([]:List Int))++d7.1::([]:List Int)))) (gd (0≤wr .i64 ((↑(length x5):Int)-1)∧wr .i64 ((↑(length x5):Int)-1)<(↑(length (List.set d7.2.2.2.2.2.2.1 (0+toNat (wr .i64 ((↑(length x5):Int)-1))) (take (length (getD d7.2.2.2.2.2.2.1 (0+toNat (wr .i64 ((↑(length x5):Int)-1))) ([]:List Int))) (getD d7.2.2.2.2.2.2.1 (0+toNat (wr .i64 ((↑(length x5):Int)-1))) ([]:List Int))++d7.1::([]:List Int)))):Int)) (gd (0+toNat (wr .i64 ((↑(length x5):Int)-1))<length (List.set d7.2.2.2.2.2.2.1 (0+toNat (wr .i64 ((↑(length x5):Int)-1))) (take (length (getD d7.2.2.2.2.2.2.1 (0+toNat (wr .i64 ((↑(length x5):Int)-1))) ([]:List Int))) (getD d7.2.2.2.2.2.2.1 (0+toNat (wr .i64 ((↑(length x5):Int)-1))) ([]:List Int))++d7.1::([]:List Int)))) (gd (0≤wr .i64 (qhi x5 d7-1)∧wr .i64 (qhi x5 d7-1)≤(↑(length (getD (List.set d7.2.2.2.2.2.2.1 (0+toNat (wr .i64 ((↑(length x5):Int)-1))) (take (length (getD d7.2.2.2.2.2.2.1 (0+toNat (wr .i64 ((↑(length x5):Int)-1))) ([]:List Int))) (getD d7.2.2.2.2.2.2.1 (0+toNat (wr .i64 ((↑(length x5):Int)-1))) ([]:List Int))++d7.1::([]:List Int))) (0+toNat (wr .i64 ((↑(length x5):Int)-1))) ([]:List Int))):Int)) (gd (0≤wr .i64 ((↑(length x5):Int)-1)∧wr .i64 ((↑(length x5):Int)-1)<(↑(length (List.set d7.2.2.2.2.2.2.1 (0+toNat (wr .i64 ((↑(length x5):Int)-1))) (take (length (getD d7.2.2.2.2.2.2.1 (0+toNat (wr .i64 ((↑(length x5):Int)-1))) ([]:List Int))) (getD d7.2.2.2.2.2.2.1 (0+toNat (wr .i64 ((↑(length x5):Int)-1))) ([]:List Int))++d7.1::([]:List Int)))):Int)) (gd (0+toNat (wr .i64 ((↑(length x5):Int)-1))<length (List.set d7.2.2.2.2.2.2.1 (0+toNat (wr .i64 ((↑(length x5):Int)-1))) (take (length (getD d7.2.2.2.2.2.2.1 (0+toNat (wr .i64 ((↑(length x5):Int)-1))) ([]:List Int))) (getD d7.2.2.2.2.2.2.1 (0+toNat (wr .i64 ((↑(length x5):Int)-1))) ([]:List Int))++d7.1::([]:List Int)))) (gd (0+toNat (wr .i64 ((↑(length x5):Int)-1))=0+toNat (wr .i64 ((↑(length x5):Int)-1))) (gd (toNat (wr .i64 (qhi x5 d7-1))≤length (getD (List.set d7.2.2.2.2.2.2.1 (0+toNat (wr .i64 ((↑(length x5):Int)-1))) (take (length (getD d7.2.2.2.2.2.2.1 (0+toNat (wr .i64 ((↑(length x5):Int)-1))) ([]:List Int))) (getD d7.2.2.2.2.2.2.1 (0+toNat (wr .i64 ((↑(length x5):Int)-1))) ([]:List Int))++d7.1::([]:List Int))) (0+toNat (wr .i64 ((↑(length x5):Int)-1))) ([]:List Int))) (gd (¬length (List.set d7.2.2.2.2.2.1 (0+toNat (wr .i64 (d7.1-1))) (qdh d7))=0) (gd (0≤wr .i64 (d7.1-1)∧wr .i64 (d7.1-1)<(↑(length (List.set d7.2.2.2.2.2.1 (0+toNat (wr .i64 (d7.1-1))) (qdh d7))):Int)) (gd (0+toNat (wr .i64 (d7.1-1))<length (List.set d7.2.2.2.2.2.1 (0+toNat (wr .i64 (d7.1-1))) (qdh d7))) (gd (0≤wr .i64 (d7.1-1)∧wr .i64 (d7.1-1)<(↑(length (List.set d7.2.2.2.2.2.1 (0+toNat (wr .i64 (d7.1-1))) (qdh d7))):Int)) (gd (0+toNat (wr .i64 (d7.1-1))<length (List.set d7.2.2.2.2.2.1 (0+toNat (wr .i64 (d7.1-1))) (qdh d7))) (gd (length (List.set d7.2.2.2.2.2.1 (0+toNat (wr .i64 (d7.1-1))) (qdh d7))=length (List.set (List.set d7.2.2.2.2.2.1 (0+toNat (wr .i64 (d7.1-1))) (qdh d7)) (0+toNat (wr .i64 (d7.1-1))) (wr .i64 (qlk d7+1)))) (gd (length (List.set d7.2.2.2.2.2.2.1 (0+toNat (wr .i64 ((↑(length x5):Int)-1))) (take (length (getD d7.2.2.2.2.2.2.1 (0+toNat (wr .i64 ((↑(length x5):Int)-1))) ([]:List Int))) (getD d7.2.2.2.2.2.2.1 (0+toNat (wr .i64 ((↑(length x5):Int)-1))) ([]:List Int))++d7.1::([]:List Int)))=length (List.set (List.set d7.2.2.2.2.2.2.1 (0+toNat (wr .i64 ((↑(length x5):Int)-1))) (take (length (getD d7.2.2.2.2.2.2.1 (0+toNat (wr .i64 ((↑(length x5):Int)-1))) ([]:List Int))) (getD d7.2.2.2.2.2.2.1 (0+toNat (wr .i64 ((↑(length x5):Int)-1))) ([]:List Int))++d7.1::([]:List Int))) (0+toNat (wr .i64 ((↑(length x5):Int)-1))) (take (toNat (wr .i64 (qhi x5 d7-1))) (getD (List.set d7.2.2.2.2.2.2.1 (0+toNat (wr .i64 ((↑(length x5):Int)-1))) (take (length (getD d7.2.2.2.2.2.2.1 (0+toNat (wr .i64 ((↑(length x5):Int)-1))) ([]:List Int))) (getD d7.2.2.2.2.2.2.1 (0+toNat (wr .i64 ((↑(length x5):Int)-1))) ([]:List Int))++d7.1::([]:List Int))) (0+toNat (wr .i64 ((↑(length x5):Int)-1))) ([]:List Int))))) (some (Lp.go ((wr .i64 (d7.1+1),d7.2.1,d7.2.2.1,d7.2.2.2.1,d7.2.2.2.2.1+filL d7.2.1 d7.2.2.1 d7.2.2.2.1 n (List.set d7.2.2.2.2.2.1 (0+toNat (wr .i64 (d7.1-1))) (qdh d7)) (List.set d7.2.2.2.2.2.2.1 (0+toNat (wr .i64 ((↑(length x5):Int)-1))) (take (length (getD d7.2.2.2.2.2.2.1 (0+toNat (wr .i64 ((↑(length x5):Int)-1))) ([]:List Int))) (getD d7.2.2.2.2.2.2.1 (0+toNat (wr .i64 ((↑(length x5):Int)-1))) ([]:List Int))++d7.1::([]:List Int))),List.set (List.set d7.2.2.2.2.2.1 (0+toNat (wr .i64 (d7.1-1))) (qdh d7)) (0+toNat (wr .i64 (d7.1-1))) (wr .i64 (qlk d7+1)),List.set (List.set d7.2.2.2.2.2.2.1 (0+toNat (wr .i64 ((↑(length x5):Int)-1))) (take (length (getD d7.2.2.2.2.2.2.1 (0+toNat (wr .i64 ((↑(length x5):Int)-1))) ([]:List Int))) (getD d7.2.2.2.2.2.2.1 (0+toNat (wr .i64 ((↑(length x5):Int)-1))) ([]:List Int))++d7.1::([]:List Int))) (0+toNat (wr .i64 ((↑(length x5):Int)-1))) (take (toNat (wr .i64 (qhi x5 d7-1))) (getD (List.set d7.2.2.2.2.2.2.1 (0+toNat (wr .i64 ((↑(length x5):Int)-1))) (take (length (getD d7.2.2.2.2.2.2.1 (0+toNat (wr .i64 ((↑(length x5):Int)-1))) ([]:List Int))) (getD d7.2.2.2.2.2.2.1 (0+toNat (wr .i64 ((↑(length x5):Int)-1))) ([]:List Int))++d7.1::([]:List Int))) (0+toNat (wr .i64 ((↑(length x5):Int)-1))) ([]:List Int))),()):Int×List Int×List Int×Int×Int×List Int×List (List Int)×Unit)))))))))))))))))))))))))))))))))))))) else gd (length d7.2.2.2.2.2.1=length d7.2.2.2.2.2.1) (gd (length d7.2.2.2.2.2.2.1=length d7.2.2.2.2.2.2.1) (some (Lp.out ((true,d7.2.1,d7.2.2.1,d7.2.2.2.1,d7.2.2.2.2.1,d7.2.2.2.2.2.1,d7.2.2.2.2.2.2.1,()):Bool×List Int×List Int×Int×Int×List Int×List (List Int)×Unit))))) ((imax (imax 1 (wr .i64 (qru x0 x5+1))) (qvw x0 x5),x0,x1,x2,x3,x4,x5,()):Int×List Int×List Int×Int×Int×List Int×List (List Int)×Unit)))))) else gd (length x4=length x4) (gd (length x5=length x5) (qat (fun (d7:Int×List Int×List Int×Int×Int×List Int×List (List Int)×Unit)=>bif ile d7.1 d7.2.2.2.1 then gd (¬length d7.2.2.2.2.2.1=0) (gd (0≤wr .i64 (d7.1-1)∧wr .i64 (d7.1-1)<(↑(length d7.2.2.2.2.2.1):Int)) (gd (0+toNat (wr .i64 (d7.1-1))<length d7.2.2.2.2.2.1) (bif qny d7 then gd (length d7.2.2.2.2.2.1=length d7.2.2.2.2.2.1) (gd (length d7.2.2.2.2.2.2.1=length d7.2.2.2.2.2.2.1) (some (Lp.go ((wr .i64 (d7.1+1),d7.2.1,d7.2.2.1,d7.2.2.2.1,d7.2.2.2.2.1,d7.2.2.2.2.2.1,d7.2.2.2.2.2.2.1,()):Int×List Int×List Int×Int×Int×List Int×List (List Int)×Unit)))) else gd (0≤wr .i64 (d7.1-1)∧wr .i64 (d7.1-1)<(↑(length d7.2.2.2.2.2.1):Int)) (gd (0+toNat (wr .i64 (d7.1-1))<length d7.2.2.2.2.2.1) (gd (0≤wr .i64 (d7.1-1)∧wr .i64 (d7.1-1)<(↑(length d7.2.2.2.2.2.1):Int)) (gd (0+toNat (wr .i64 (d7.1-1))<length d7.2.2.2.2.2.1) (gd (0≤wr .i64 ((↑(length x5):Int)-1)∧wr .i64 ((↑(length x5):Int)-1)<(↑(length d7.2.2.2.2.2.2.1):Int)) (gd (0+toNat (wr .i64 ((↑(length x5):Int)-1))<length d7.2.2.2.2.2.2.1) (gd (0+toNat (wr .i64 ((↑(length x5):Int)-1))<length d7.2.2.2.2.2.2.1) (gd (length (getD d7.2.2.2.2.2.2.1 (0+toNat (wr .i64 ((↑(length x5):Int)-1))) ([]:List Int))≤length (getD d7.2.2.2.2.2.2.1 (0+toNat (wr .i64 ((↑(length x5):Int)-1))) ([]:List Int))) (gd ((length (getD d7.2.2.2.2.2.2.1 (0+toNat (wr .i64 ((↑(length x5):Int)-1))) ([]:List Int))+1)*(8:Nat)≤1099511627776) (gd (0≤wr .i64 ((↑(length x5):Int)-1)∧wr .i64 ((↑(length x5):Int)-1)<(↑(length d7.2.2.2.2.2.2.1):Int)) (gd (0+toNat (wr .i64 ((↑(length x5):Int)-1))<length (List.set d7.2.2.2.2.2.2.1 (0+toNat (wr .i64 ((↑(length x5):Int)-1))) (take (length (getD d7.2.2.2.2.2.2.1 (0+toNat (wr .i64 ((↑(length x5):Int)-1))) ([]:List Int))) (getD d7.2.2.2.2.2.2.1 (0+toNat (wr .i64 ((↑(length x5):Int)-1))) ([]:List Int))++d7.1::([]:List Int)))) (gd (0+toNat (wr .i64 ((↑(length x5):Int)-1))=0+toNat (wr .i64 ((↑(length x5):Int)-1))) (gd (0+toNat (wr .i64 ((↑(length x5):Int)-1))=0+toNat (wr .i64 ((↑(length x5):Int)-1))) (gd (length (getD d7.2.2.2.2.2.2.1 (0+toNat (wr .i64 ((↑(length x5):Int)-1))) ([]:List Int))+1=length (getD (List.set d7.2.2.2.2.2.2.1 (0+toNat (wr .i64 ((↑(length x5):Int)-1))) (take (length (getD d7.2.2.2.2.2.2.1 (0+toNat (wr .i64 ((↑(length x5):Int)-1))) ([]:List Int))) (getD d7.2.2.2.2.2.2.1 (0+toNat (wr .i64 ((↑(length x5):Int)-1))) ([]:List Int))++d7.1::([]:List Int))) (0+toNat (wr .i64 ((↑(length x5):Int)-1))) ([]:List Int))) (gd (length d7.2.2.2.2.2.1=length (List.set d7.2.2.2.2.2.1 (0+toNat (wr .i64 (d7.1-1))) (qcg d7))) (gd (length d7.2.2.2.2.2.2.1=length (List.set d7.2.2.2.2.2.2.1 (0+toNat (wr .i64 ((↑(length x5):Int)-1))) (take (length (getD d7.2.2.2.2.2.2.1 (0+toNat (wr .i64 ((↑(length x5):Int)-1))) ([]:List Int))) (getD d7.2.2.2.2.2.2.1 (0+toNat (wr .i64 ((↑(length x5):Int)-1))) ([]:List Int))++d7.1::([]:List Int)))) (gd (preB n d7.2.1 d7.2.2.1 (List.set d7.2.2.2.2.2.1 (0+toNat (wr .i64 (d7.1-1))) (qcg d7)) d7.2.2.2.1 (List.set d7.2.2.2.2.2.2.1 (0+toNat (wr .i64 ((↑(length x5):Int)-1))) (take (length (getD d7.2.2.2.2.2.2.1 (0+toNat (wr .i64 ((↑(length x5):Int)-1))) ([]:List Int))) (getD d7.2.2.2.2.2.2.1 (0+toNat (wr .i64 ((↑(length x5):Int)-1))) ([]:List Int))++d7.1::([]:List Int))) d7.2.2.2.2.1) (gd (0≤wr .i64 ((↑(length x5):Int)-1)∧wr .i64 ((↑(length x5):Int)-1)<(↑(length (List.set d7.2.2.2.2.2.2.1 (0+toNat (wr .i64 ((↑(length x5):Int)-1))) (take (length (getD d7.2.2.2.2.2.2.1 (0+toNat (wr .i64 ((↑(length x5):Int)-1))) ([]:List Int))) (getD d7.2.2.2.2.2.2.1 (0+toNat (wr .i64 ((↑(length x5):Int)-1))) ([]:List Int))++d7.1::([]:List Int)))):Int)) (gd (0+toNat (wr .i64 ((↑(length x5):Int)-1))<length (List.set d7.2.2.2.2.2.2.1 (0+toNat (wr .i64 ((↑(length x5):Int)-1))) (take (length (getD d7.2.2.2.2.2.2.1 (0+toNat (wr .i64 ((↑(length x5):Int)-1))) ([]:List Int))) (getD d7.2.2.2.2.2.2.1 (0+toNat (wr .i64 ((↑(length x5):Int)-1))) ([]:List Int))++d7.1::([]:List Int)))) (gd (0≤wr .i64 ((↑(length x5):Int)-1)∧wr .i64 ((↑(length x5):Int)-1)<(↑(length (List.set d7.2.2.2.2.2.2.1 (0+toNat (wr .i64 ((↑(length x5):Int)-1))) (take (length (getD d7.2.2.2.2.2.2.1 (0+toNat (wr .i64 ((↑(length x5):Int)-1))) ([]:List Int))) (getD d7.2.2.2.2.2.2.1 (0+toNat (wr .i64 ((↑(length x5):Int)-1))) ([]:List Int))++d7.1::([]:List Int)))):Int)) (gd (0+toNat (wr .i64 ((↑(length x5):Int)-1))<length (List.set d7.2.2.2.2.2.2.1 (0+toNat (wr .i64 ((↑(length x5):Int)-1))) (take (length (getD d7.2.2.2.2.2.2.1 (0+toNat (wr .i64 ((↑(length x5):Int)-1))) ([]:List Int))) (getD d7.2.2.2.2.2.2.1 (0+toNat (wr .i64 ((↑(length x5):Int)-1))) ([]:List Int))++d7.1::([]:List Int)))) (gd (0≤wr .i64 (qe9 x5 d7-1)∧wr .i64 (qe9 x5 d7-1)≤(↑(length (getD (List.set d7.2.2.2.2.2.2.1 (0+toNat (wr .i64 ((↑(length x5):Int)-1))) (take (length (getD d7.2.2.2.2.2.2.1 (0+toNat (wr .i64 ((↑(length x5):Int)-1))) ([]:List Int))) (getD d7.2.2.2.2.2.2.1 (0+toNat (wr .i64 ((↑(length x5):Int)-1))) ([]:List Int))++d7.1::([]:List Int))) (0+toNat (wr .i64 ((↑(length x5):Int)-1))) ([]:List Int))):Int)) (gd (0≤wr .i64 ((↑(length x5):Int)-1)∧wr .i64 ((↑(length x5):Int)-1)<(↑(length (List.set d7.2.2.2.2.2.2.1 (0+toNat (wr .i64 ((↑(length x5):Int)-1))) (take (length (getD d7.2.2.2.2.2.2.1 (0+toNat (wr .i64 ((↑(length x5):Int)-1))) ([]:List Int))) (getD d7.2.2.2.2.2.2.1 (0+toNat (wr .i64 ((↑(length x5):Int)-1))) ([]:List Int))++d7.1::([]:List Int)))):Int)) (gd (0+toNat (wr .i64 ((↑(length x5):Int)-1))<length (List.set d7.2.2.2.2.2.2.1 (0+toNat (wr .i64 ((↑(length x5):Int)-1))) (take (length (getD d7.2.2.2.2.2.2.1 (0+toNat (wr .i64 ((↑(length x5):Int)-1))) ([]:List Int))) (getD d7.2.2.2.2.2.2.1 (0+toNat (wr .i64 ((↑(length x5):Int)-1))) ([]:List Int))++d7.1::([]:List Int)))) (gd (0+toNat (wr .i64 ((↑(length x5):Int)-1))=0+toNat (wr .i64 ((↑(length x5):Int)-1))) (gd (toNat (wr .i64 (qe9 x5 d7-1))≤length (getD (List.set d7.2.2.2.2.2.2.1 (0+toNat (wr .i64 ((↑(length x5):Int)-1))) (take (length (getD d7.2.2.2.2.2.2.1 (0+toNat (wr .i64 ((↑(length x5):Int)-1))) ([]:List Int))) (getD d7.2.2.2.2.2.2.1 (0+toNat (wr .i64 ((↑(length x5):Int)-1))) ([]:List Int))++d7.1::([]:List Int))) (0+toNat (wr .i64 ((↑(length x5):Int)-1))) ([]:List Int))) (gd (¬length (List.set d7.2.2.2.2.2.1 (0+toNat (wr .i64 (d7.1-1))) (qcg d7))=0) (gd (0≤wr .i64 (d7.1-1)∧wr .i64 (d7.1-1)<(↑(length (List.set d7.2.2.2.2.2.1 (0+toNat (wr .i64 (d7.1-1))) (qcg d7))):Int)) (gd (0+toNat (wr .i64 (d7.1-1))<length (List.set d7.2.2.2.2.2.1 (0+toNat (wr .i64 (d7.1-1))) (qcg d7))) (gd (0≤wr .i64 (d7.1-1)∧wr .i64 (d7.1-1)<(↑(length (List.set d7.2.2.2.2.2.1 (0+toNat (wr .i64 (d7.1-1))) (qcg d7))):Int)) (gd (0+toNat (wr .i64 (d7.1-1))<length (List.set d7.2.2.2.2.2.1 (0+toNat (wr .i64 (d7.1-1))) (qcg d7))) (gd (length (List.set d7.2.2.2.2.2.1 (0+toNat (wr .i64 (d7.1-1))) (qcg d7))=length (List.set (List.set d7.2.2.2.2.2.1 (0+toNat (wr .i64 (d7.1-1))) (qcg d7)) (0+toNat (wr .i64 (d7.1-1))) (wr .i64 (qik d7+1)))) (gd (length (List.set d7.2.2.2.2.2.2.1 (0+toNat (wr .i64 ((↑(length x5):Int)-1))) (take (length (getD d7.2.2.2.2.2.2.1 (0+toNat (wr .i64 ((↑(length x5):Int)-1))) ([]:List Int))) (getD d7.2.2.2.2.2.2.1 (0+toNat (wr .i64 ((↑(length x5):Int)-1))) ([]:List Int))++d7.1::([]:List Int)))=length (List.set (List.set d7.2.2.2.2.2.2.1 (0+toNat (wr .i64 ((↑(length x5):Int)-1))) (take (length (getD d7.2.2.2.2.2.2.1 (0+toNat (wr .i64 ((↑(length x5):Int)-1))) ([]:List Int))) (getD d7.2.2.2.2.2.2.1 (0+toNat (wr .i64 ((↑(length x5):Int)-1))) ([]:List Int))++d7.1::([]:List Int))) (0+toNat (wr .i64 ((↑(length x5):Int)-1))) (take (toNat (wr .i64 (qe9 x5 d7-1))) (getD (List.set d7.2.2.2.2.2.2.1 (0+toNat (wr .i64 ((↑(length x5):Int)-1))) (take (length (getD d7.2.2.2.2.2.2.1 (0+toNat (wr .i64 ((↑(length x5):Int)-1))) ([]:List Int))) (getD d7.2.2.2.2.2.2.1 (0+toNat (wr .i64 ((↑(length x5):Int)-1))) ([]:List Int))++d7.1::([]:List Int))) (0+toNat (wr .i64 ((↑(length x5):Int)-1))) ([]:List Int))))) (some (Lp.go ((wr .i64 (d7.1+1),d7.2.1,d7.2.2.1,d7.2.2.2.1,d7.2.2.2.2.1+filL d7.2.1 d7.2.2.1 d7.2.2.2.1 n (List.set d7.2.2.2.2.2.1 (0+toNat (wr .i64 (d7.1-1))) (qcg d7)) (List.set d7.2.2.2.2.2.2.1 (0+toNat (wr .i64 ((↑(length x5):Int)-1))) (take (length (getD d7.2.2.2.2.2.2.1 (0+toNat (wr .i64 ((↑(length x5):Int)-1))) ([]:List Int))) (getD d7.2.2.2.2.2.2.1 (0+toNat (wr .i64 ((↑(length x5):Int)-1))) ([]:List Int))++d7.1::([]:List Int))),List.set (List.set d7.2.2.2.2.2.1 (0+toNat (wr .i64 (d7.1-1))) (qcg d7)) (0+toNat (wr .i64 (d7.1-1))) (wr .i64 (qik d7+1)),List.set (List.set d7.2.2.2.2.2.2.1 (0+toNat (wr .i64 ((↑(length x5):Int)-1))) (take (length (getD d7.2.2.2.2.2.2.1 (0+toNat (wr .i64 ((↑(length x5):Int)-1))) ([]:List Int))) (getD d7.2.2.2.2.2.2.1 (0+toNat (wr .i64 ((↑(length x5):Int)-1))) ([]:List Int))++d7.1::([]:List Int))) (0+toNat (wr .i64 ((↑(length x5):Int)-1))) (take (toNat (wr .i64 (qe9 x5 d7-1))) (getD (List.set d7.2.2.2.2.2.2.1 (0+toNat (wr .i64 ((↑(length x5):Int)-1))) (take (length (getD d7.2.2.2.2.2.2.1 (0+toNat (wr .i64 ((↑(length x5):Int)-1))) ([]:List Int))) (getD d7.2.2.2.2.2.2.1 (0+toNat (wr .i64 ((↑(length x5):Int)-1))) ([]:List Int))++d7.1::([]:List Int))) (0+toNat (wr .i64 ((↑(length x5):Int)-1))) ([]:List Int))),()):Int×List Int×List Int×Int×Int×List Int×List (List Int)×Unit)))))))))))))))))))))))))))))))))))))) else gd (length d7.2.2.2.2.2.1=length d7.2.2.2.2.2.1) (gd (length d7.2.2.2.2.2.2.1=length d7.2.2.2.2.2.2.1) (some (Lp.out ((true,d7.2.1,d7.2.2.1,d7.2.2.2.1,d7.2.2.2.2.1,d7.2.2.2.2.2.1,d7.2.2.2.2.2.2.1,()):Bool×List Int×List Int×Int×Int×List Int×List (List Int)×Unit))))) ((imax 1 (wr .i64 (qru x0 x5+1)),x0,x1,x2,x3,x4,x5,()):Int×List Int×List Int×Int×Int×List Int×List (List Int)×Unit))))))))))))))))))))))))))))
def q4e:List LSh:=LSh.mk3 (((0,TV.ref (0) 1 0 0):Nat×TV)::((1,TV.fn (109) (TV.cons (TV.ref (1) 1 0 0) (TV.cons (TV.ref (2) 1 0 0) TV.nil))):Nat×TV)::((9,TV.v (Ty.int .i64)):Nat×TV)::([]:List (Nat×TV))) (TB.cells (TV.v (Ty.slice (Ty.int .i64))::TV.v (Ty.slice (Ty.int .i64))::TV.slf (3) (1)::TV.v (Ty.int .i64)::TV.slf (5) (1)::([]:List TV))::TB.cells (TV.fn (116) TV.nil::([]:List TV))::TB.cells (TV.v (Ty.int .i64)::([]:List TV))::TB.arr (Ty.int .i64) true::TB.dead::TB.nest (Ty.int .i64)::([]:List TB)) (5)::([]:List LSh)
def qsz (inner outer m:List Int):Int:=if wr .i64 (boxW outer-boxW inner)=boxW m then filL inner outer m.length 81 m [] else 0
def qq9:SCon:=mkS 68 [.v LI,.v LI,.v LI,F109 0] (P68b 116) [] (P68b 116) (fun (inner outer m:List Int) (out:Int)=>[okIn inner outer m∧qgu m=true∧0≤out∧out≤1000000]) (fun (inner outer m:List Int) (out:Int)=>(out+qsz inner outer m,()))
def g68c (x0 x1 x2:List Int) (x3:Int):Option (Int×Unit):=gd (List.length x1≤1000) (gd (List.length x0≤1000) (gd (List.length x2≤1000) (bif !ieq (wr .i64 (boxW x1-boxW x0)) (boxW x2) then some ((x3,()):Int×Unit) else gd ((0:Nat)≤0) (gd ((0+List.length x2)*(8:Nat)≤1099511627776) (gd (0+List.length x2=List.length x2) (gd ((0:Nat)=0) (gd (preB 81 x0 x1 x2 (↑(List.length x2):Int) ([]:List (List Int)) x3) (some ((x3+filL x0 x1 (↑(List.length x2):Int) 81 x2 ([]:List (List Int)),()):Int×Unit)))))))))
def q4y:List LSh:=([]:List LSh)
def qqc:Con:=mkC 71 [.d LI,.d LI,.d LI,.fn 116 []] [I64] (fun (inner outer m:List Int)=>[okIn inner outer m∧qgu m=true]) (fun (inner outer m:List Int)=>(qsz inner outer m,()))
def g71c (x0 x1 x2:List Int):Option (Int×Unit):=gd (okIn x0 x1 x2∧qgu x2=true∧(0:Int)≤0∧(0:Int)≤1000000) (some ((0+qsz x0 x1 x2,()):Int×Unit))
def q1h:List LSh:=([]:List LSh)
def insB (l c:List Int):Bool:=(List.range l.length).all fun i=>decide (l.getD i 0≤rowF c i)
def qqm:Con:=mkC 115 [.d LI,.d LI] [.bool] (fun (l c:List Int)=>[l.length≤1000∧c.length≤1000]) (fun (l c:List Int)=>(insB l c,()))
def g115 (x0 x1:List Int):Option (Bool×Unit):=qat (fun (d2:Int×Unit)=>bif ilt d2.1 (↑(List.length x0):Int) then gd (0≤d2.1∧d2.1<(↑(List.length x0):Int)) (gd (0≤d2.1∧List.length x1≤1000) (bif ilt (rowF x1 d2.1) (List.getD x0 (Int.toNat d2.1) 0) then some (Lp.out ((false,()):Bool×Unit)) else some (Lp.go ((wr .i64 (d2.1+1),()):Int×Unit)))) else some (Lp.out ((true,()):Bool×Unit))) ((0,()):Int×Unit)
def q4s:List LSh:=LSh.mk (((9,TV.v (Ty.int .i64)):Nat×TV)::([]:List (Nat×TV))) ([]:List TB)::([]:List LSh)
def qjo (a b c:List Int):Int:=if insB a c=true then qsz a c b else 0
def sh3 (a b c:List Int):Prop:=qad a=true∧qad b=true∧qad c=true
def q0j:Con:=mkC 96 [.d LI,.d LI,.d LI] [I64] (fun (a b c:List Int)=>[sh3 a b c]) (fun (a b c:List Int)=>(qjo a b c,()))
def g96 (x0 x1 x2:List Int):Option (Int×Unit):=gd (List.length x0≤1000∧List.length x2≤1000) (bif !insB x0 x2 then some ((0,()):Int×Unit) else gd (okIn x0 x2 x1∧qgu x1=true) (some ((qsz x0 x2 x1,()):Int×Unit)))
def q8p:List LSh:=([]:List LSh)
def qr8 (a b c:List Int):Int×Int×Unit:=if qad a=true∧qad b=true∧qad c=true then (qjo a b c,0,()) else (0,2,())
def q0t:Con:=mkC 53 [.d LI,.d LI,.d LI] [I64,I64] (fun (a b c:List Int)=>[a.length≤1000∧b.length≤1000∧c.length≤1000]) (fun (a b c:List Int)=>qr8 a b c)
def g53 (x0 x1 x2:List Int):Option (Int×Int×Unit):=gd (List.length x0≤1000) (gd ((!!qad x0)=true→(!!qad x0)=true∧List.length x1≤1000) (gd ((!!qad x0)=true→(!!qad x0)=true) (gd ((!qad x0)=false→(!!qad x0)=true) (gd ((!bif !qad x0 then true else !qad x1)=true→(!bif !qad x0 then true else !qad x1)=true∧List.length x2≤1000) (gd ((!bif !qad x0 then true else !qad x1)=true→(!bif !qad x0 then true else !qad x1)=true) (gd ((bif !qad x0 then true else !qad x1)=false→(!bif !qad x0 then true else !qad x1)=true) (bif bif bif !qad x0 then true else !qad x1 then true else !qad x2 then some ((0,2,()):Int×Int×Unit) else gd (sh3 x0 x1 x2) (some ((qjo x0 x1 x2,0,()):Int×Int×Unit)))))))))
def q7l:List LSh:=([]:List LSh)
abbrev za9:=List Int×Int×Unit
def grd (T:List (List Int)) (i j:Int):Int:=(T.getD i.toNat []).getD j.toNat 0
def q6m (a b:List Int) (grid:List (List Int)) (came:List Int) (i j gone x:Int):Bool :=
 decide (came.getD (x-1).toNat 0=b.getD (x-1).toNat 0) || (decide (1<x) && decide (came.getD (x-2).toNat 0<came.getD (x-1).toNat 0+1)) ||
 (decide (0<gone) && decide (grd grid i (j+1)<x)) || (decide (0<i) && (decide (rowF a (i-1)≤j) && decide (x≤grd grid (i-1) j)))
def sumX (g:Int→Int):Nat→Int→Int
 | 0,_=>0
 | c+1,x=>g x+sumX g c (x+1)
def refU (a b c:List Int):Nat→List (List Int)→List Int→Int→Int→Int
 | 0,_,_,_,_=>0
 | n+1,grid,came,i,gone =>
  if i=c.length then 1 else
  if c.getD i.toNat 0-1-gone<rowF a i then refU a b c n grid came (i+1) 0 else
  sumX (fun x=>if q6m a b grid came i (c.getD i.toNat 0-1-gone) gone x=true then 0 else
   refU a b c n (grid.set i.toNat ((grid.getD i.toNat []).set (c.getD i.toNat 0-1-gone).toNat x)) (came.set (x-1).toNat (came.getD (x-1).toNat 0+1)) i (gone+1)) b.length 1
structure preU (n:Nat) (a b c:List Int) (grid:List (List Int)) (came:List Int) (i gone:Int):Prop where
 al:a.length≤8
 bl:b.length≤8
 cl:c.length≤8
 a0:∀ k:Nat,0≤rowF a k
 ac:∀ k:Nat,rowF a k≤rowF c k
 c8:∀ k:Nat,rowF c k≤8
 cd:∀ k:Nat,rowF c (k+1:Nat)≤rowF c k
 b8:∀ x∈b,0≤x∧x≤8
 ml:came.length=b.length
 m8:∀ k:Nat,0≤came.getD k 0∧came.getD k 0≤b.getD k 0
 gl:grid.length=c.length
 gr:∀ k:Nat,((grid.getD k []).length:Int)=rowF c k
 i0:0≤i∧i≤c.length
 g0:0≤gone∧(i<c.length→gone≤c.getD i.toNat 0-rowF a i)
 mu:10*(c.length-i.toNat)+(8-gone.toNat)<n
def q52 (c:List Int):List (List Int):=c.map fun x=>List.replicate x.toNat 0
def refR (a b c:List Int):Int:=if boxW a+boxW b=boxW c∧insB a c=true then refU a b c 100 (q52 c) (List.replicate b.length 0) 0 0 else 0
open Go Go.Ab Go.Proofs Go.RowKit Go.Shelf
theorem qft {l:List Int} {i j:Nat} {v:Int} (h:i<l.length):(l.set i v).getD j 0=if i=j then v else l.getD j 0:=by
 simp only [waa]
 by_cases e:i=j
 ·subst e;rw [List.getElem?_set_self h,if_pos rfl];rfl
 ·rw [wai e,if_neg e]
theorem q76 {L:List Int} {x:Int} (h1:1≤x) (h8:x≤8) (hL:L.length=9) (hb : -1000≤L.getD x.toNat 0∧L.getD x.toNat 0≤1000) :
  ltS L x=if 1<x∧L.getD (x-1).toNat 0<L.getD x.toNat 0+1 then none else some (L.set x.toNat (L.getD x.toNat 0+1)):=by
 have hw:wrap64 (L.getD x.toNat 0+1)=L.getD x.toNat 0+1:=by unfold wrap64;omega
 unfold ltS;simp only [hw,qft (show x.toNat<L.length by omega),if_neg (show ¬ x.toNat=(x-1).toNat by omega),if_true]
theorem q3t:∀ {l m c:List Int},ltR c (l++m)=(ltR c l).bind fun c=>ltR c m
 | [],m,c=>rfl
 | x::l,m,c=>by
  rw [wbt,ltR,ltR]
  cases ltS c x with
  | none=>rfl
  | some d=>exact q3t
def refZ (a b c:List Int):Nat→List (List Int)→List Int→List Int→List (List (List Int))
 | 0,_,_,_=>[]
 | n+1,R,s,came =>
  if R.length=c.length then [R] else
  if c.getD R.length 0-1-s.length<rowF a R.length then refZ a b c n (R++[s]) [] came else
  catX (fun x=>if came.getD (x-1).toNat 0=b.getD (x-1).toNat 0∨(1<x∧came.getD (x-2).toNat 0<came.getD (x-1).toNat 0+1)∨(s≠[]∧s.headD 0<x)∨x≤atF a R ((R.length:Int)-1) (c.getD R.length 0-1-s.length) then []
   else refZ a b c n R (x::s) (came.set (x-1).toNat (came.getD (x-1).toNat 0+1))) b.length 1
structure StS (a b c:List Int) (R:List (List Int)) (s came:List Int):Prop where
 bl:b.length≤8
 b8:∀ k:Nat,0≤b.getD k 0∧b.getD k 0≤8
 ac:∀ k:Nat,0≤rowF a k∧rowF a k≤rowF c k∧rowF c k≤8
 len:R.length≤c.length
 fin:R.length=c.length→s=[]
 row:∀ k:Nat,k<R.length→rowF a k+((R.getD k []).length:Int)=rowF c k
 sl:R.length<c.length→(s.length:Int)≤rowF c R.length-rowF a R.length
 ent:∀ r∈R,∀ x∈r,1≤x∧x≤b.length
 ens:∀ x∈s,1≤x∧x≤b.length
 ord:Ord a R
 srt:s.Pairwise (·≤·)
 abv:∀ t:Nat,t<s.length→atF a R ((R.length:Int)-1) (rowF c R.length-s.length+t)<s.getD t 0
 ml:came.length=b.length
 cam:∀ x:Int,1≤x→x≤b.length→came.getD (x-1).toNat 0=(cnt x R:Int)+s.count x
 cle:∀ x:Int,1≤x→x≤b.length→came.getD (x-1).toNat 0≤b.getD (x-1).toNat 0
 lat:∃ L,((ltA R).bind fun c=>ltR c s.reverse)=some L∧L.length=9∧∀ x:Int,1≤x→x≤b.length→L.getD x.toNat 0=came.getD (x-1).toNat 0
def GoS (c:List Int) (R:List (List Int)) (s:List Int) (T:List (List Int)):Prop:=(R.length=c.length∧T=R)∨(R.length<c.length∧∃ p U,T=R++(p++s)::U)
def Full (a b c:List Int) (T:List (List Int)):Prop:=Tab a c b.length T∧(∀ x:Int,1≤x→x≤b.length→(cnt x T:Int)=b.getD (x-1).toNat 0)∧(ltA T).isSome=true
theorem qbu {l:List Int} {k:Nat}:rowF l k=l.getD k 0:=by unfold rowF;rw [if_neg (by omega),wad]
theorem q9v {a c:List Int} {R:List (List Int)} {s:List Int} (h:Ord a R) (hs:s.Pairwise (·≤·)) (hl:rowF a R.length+s.length=rowF c R.length)
  (ha:∀ t:Nat,t<s.length→atF a R ((R.length:Int)-1) (rowF c R.length-s.length+t)<s.getD t 0):Ord a (R++[s]):=by
 intro i j hi hj;simp only [waf,wbf,wbm] at hi
 by_cases e:i=R.length
 ·subst e;rw [qa6] at hj ⊢;refine ⟨fun h0=>?_,fun h0=>?_⟩
  ·have:=List.pairwise_iff_getElem.1 hs (j-1) j (by omega) hj (by omega)
   simpa [waa,wab hj,wab (show j-1<s.length by omega)] using this
  ·have h1:=ha j hj;rw [show rowF c R.length-s.length+(j:Int)=rowF a R.length+j by omega] at h1
   rw [qfz (T':=R) (qc5 _ _ _ (by omega))]
   exact h1
 ·have hlt:i<R.length:=by omega
  rw [qc5 _ _ _ hlt] at hj ⊢;obtain ⟨h1,h2⟩:=h i j hlt hj;refine ⟨h1,fun h0=>?_⟩
  rw [qfz (T':=R) (qc5 _ _ _ (by omega))]
  exact h2 h0
def sumQ (f:Nat→Int):Nat→Int
 | 0=>0
 | n+1=>sumQ f n+f n
theorem qfe {f g:Nat→Int}:∀ {n:Nat},(∀ k,k<n→f k=g k)→sumQ f n=sumQ g n
 | 0,_=>rfl
 | n+1,h=>by rw [sumQ,sumQ,qfe fun k hk=>h k (by omega),h n (by omega)]
theorem qxz {f g:Nat→Int}:∀ {n:Nat},sumQ (fun k=>f k+g k) n=sumQ f n+sumQ g n
 | 0=>rfl
 | n+1=>by rw [sumQ,sumQ,sumQ,qxz];omega
theorem qyo {j:Nat}:∀ {n:Nat},sumQ (fun k=>if k=j then 1 else 0) n=if j<n then 1 else 0
 | 0=>rfl
 | n+1=>by
  rw [sumQ,qyo]
  by_cases h:n=j
  ·subst h;simp
  ·rw [if_neg h]
   by_cases h2:j<n
   ·rw [if_pos h2,if_pos (by omega)];rfl
   ·rw [if_neg h2,if_neg (by omega)];rfl
theorem qpb:∀ {n:Nat},sumQ (fun _=>0) n=0
 | 0=>rfl
 | n+1=>by rw [sumQ,qpb];rfl
theorem quv {M:Nat}:∀ {l:List Int},(∀ x∈l,1≤x∧x≤(M:Int))→(l.length:Int)=sumQ (fun k=>(l.count ((k:Int)+1):Nat)) M
 | [],_=>by simp [qpb]
 | y::l,h=>by
  have hy:=h y (wa7 ..);have ih:=quv (l:=l) fun x hx=>h x (wan _ hx)
  have e:sumQ (fun k=>((y::l).count ((k:Int)+1):Nat)) M=sumQ (fun k=>((l.count ((k:Int)+1):Nat):Int)+if k=(y-1).toNat then 1 else 0) M:=by
   refine qfe fun k _=>?_
   rw [List.count_cons]
   by_cases hk:k=(y-1).toNat
   ·have:(y == (k:Int)+1)=true:=by rw [beq_iff_eq];omega
    rw [if_pos hk,this];simp
   ·have:(y == (k:Int)+1)=false:=by rw [beq_eq_false_iff_ne];omega
    rw [if_neg hk,this];simp
  rw [e,qxz,qyo,if_pos (by omega),← ih,wbf];omega
theorem qp9 {f g:Nat→Int}:∀ {n:Nat},(∀ k,k<n→f k≤g k)→sumQ f n=sumQ g n→∀ k,k<n→f k=g k
 | 0,_,_,k,hk=>by omega
 | n+1,h,hs,k,hk=>by
  have hle:sumQ f n≤sumQ g n:=by
   clear hs hk
   induction n with
   | zero=>exact waw _
   | succ n ih=>have h1:=ih fun k hk=>h k (by omega);have:=h n (by omega);rw [sumQ,sumQ];omega
  rw [sumQ,sumQ] at hs;have:=h n (by omega)
  by_cases e:k=n
  ·subst e;omega
  ·exact qp9 (n:=n) (fun k hk=>h k (by omega)) (by omega) k (by omega)
theorem q24 {R:List (List Int)} {p s:List Int} {U:List (List Int)} {x:Int}:cnt x (R++(p++s)::U)=cnt x R+p.count x+s.count x+cnt x U:=by
 simp [cnt,List.count_append];omega
theorem zcn {R U:List (List Int)} {r:List Int} (h:(ltA (R++r::U)).isSome=true):((ltA R).bind fun c=>ltR c r.reverse).isSome=true:=by
 rw [← qmv]
 cases hx:ltA (R++[r]) with
 | some L=>rfl
 | none =>
  have:=q4d (rest:=U) hx;rw [way,wbt,wbu] at this;rw [this] at h;cases h
section
variable {a b c:List Int} {R:List (List Int)} {s came:List Int}
theorem StS.close (h:StS a b c R s came) (hlt:R.length<c.length) (hl:rowF a R.length+s.length=rowF c R.length):StS a b c (R++[s]) [] came where
 bl:=h.bl
 b8:=h.b8
 ac:=h.ac
 len:=by simp;omega
 fin:=fun _=>rfl
 row:=fun k hk=>by
  simp only [waf,wbf,wbm] at hk
  by_cases e:k=R.length
  ·subst e;rw [qa6];exact hl
  ·rw [qc5 _ _ _ (by omega)];exact h.row k (by omega)
 sl:=fun hl2=>by
  have:=h.ac (R++[s]).length;simp only [wbm];omega
 ent:=fun r hr=>by
  rcases List.mem_append.1 hr with h1 | h1
  ·exact h.ent r h1
  ·rw [List.mem_singleton.1 h1];exact h.ens
 ens:=fun x hx=>nomatch hx
 ord:=q9v h.ord h.srt hl h.abv
 srt:=List.Pairwise.nil
 abv:=fun t ht=>by simp at ht
 ml:=h.ml
 cam:=fun x h1 h2=>by
  rw [h.cam x h1 h2];simp [cnt,List.count_append]
 cle:=h.cle
 lat:=by
  obtain ⟨L,h1,h2,h3⟩:=h.lat;exact ⟨L,by rw [qmv,h1];rfl,h2,h3⟩
theorem StS.push {x:Int} (h:StS a b c R s came) (h1:1≤x) (hx:x≤b.length) (hsl:R.length<c.length∧(s.length:Int)+1≤rowF c R.length-rowF a R.length)
  (n1:came.getD (x-1).toNat 0≠b.getD (x-1).toNat 0) (n2:¬ (1<x∧came.getD (x-2).toNat 0<came.getD (x-1).toNat 0+1)) (n3:¬ (s≠[]∧s.headD 0<x))
  (n4:¬ x≤atF a R ((R.length:Int)-1) (c.getD R.length 0-1-s.length)):StS a b c R (x::s) (came.set (x-1).toNat (came.getD (x-1).toNat 0+1)):=by
 have hbl:=h.bl;have hml:=h.ml;refine { h with fin:=fun e=>?_,sl:=fun _=>?_,ens:=?_,srt:=?_,abv:=?_,ml:=?_,cam:=?_,cle:=?_,lat:=?_ }
 ·omega
 ·simp only [wbf];omega
 ·intro y hy
  rcases List.mem_cons.1 hy with rfl | hy
  ·exact ⟨h1,hx⟩
  ·exact h.ens y hy
 ·refine List.pairwise_cons.2 ⟨fun y hy=>?_,h.srt⟩
  cases s with
  | nil=>cases hy
  | cons z s =>
   have hz:x≤z:=by
    rcases Int.lt_or_le z x with h3 | h3
    ·exact absurd ⟨by simp,h3⟩ n3
    ·exact h3
   rcases List.mem_cons.1 hy with rfl | hy
   ·exact hz
   ·exact Int.le_trans hz ((List.pairwise_cons.1 h.srt).1 y hy)
 ·intro t ht
  cases t with
  | zero =>
   rw [qbu];simp only [wbf,List.getD_cons_zero];rw [show c.getD R.length 0-((s.length+1:Nat):Int)+((0:Nat):Int)=c.getD R.length 0-1-s.length by omega]
   omega
  | succ t =>
   have:=h.abv t (by simpa using ht)
   simp only [wbf,List.getD_cons_succ];rw [show rowF c R.length-((s.length+1:Nat):Int)+((t+1:Nat):Int)=rowF c R.length-s.length+t by omega]
   exact this
 ·rw [wak];exact h.ml
 ·intro y hy1 hy2;rw [qft (by omega),List.count_cons]
  by_cases e:y=x
  ·subst e;rw [if_pos rfl,h.cam y hy1 hy2];simp;omega
  ·have:(x == y)=false:=by rw [beq_eq_false_iff_ne];exact fun h=>e h.symm
   rw [if_neg (by omega),h.cam y hy1 hy2,this];simp
 ·intro y hy1 hy2;rw [qft (by omega)]
  have:=h.cle y hy1 hy2
  by_cases e:y=x
  ·subst e;rw [if_pos rfl];omega
  ·rw [if_neg (by omega)];exact this
 ·obtain ⟨L,g1,g2,g3⟩:=h.lat;have hLx:=g3 x h1 hx;have hc0:=h.cam x h1 hx;have hcl:=h.cle x h1 hx;have hb8:=h.b8 (x-1).toNat;refine ⟨L.set x.toNat (L.getD x.toNat 0+1),?_,by rw [wak];exact g2,fun y hy1 hy2=>?_⟩
  ·have e1:(fun c=>ltR c (x::s).reverse)=fun c=>(ltR c s.reverse).bind fun d=>ltS d x:=by
    funext d;rw [List.reverse_cons,qsy]
   rw [e1,← Option.bind_assoc,g1];show ltS L x=_;rw [q76 h1 (by omega) g2 (by omega),if_neg]
   rintro ⟨k1,k2⟩;apply n2;refine ⟨k1,?_⟩;have:=g3 (x-1) (by omega) (by omega)
   rw [show x-1-1=x-2 by omega] at this
   rw [← this,← hLx];exact k2
  ·rw [qft (by omega),qft (by omega)]
   by_cases e:y=x
   ·subst e;rw [if_pos rfl,if_pos rfl,hLx]
   ·rw [if_neg (by omega),if_neg (by omega)];exact g3 y hy1 hy2
end
theorem qo0 {R U:List (List Int)} {r:List Int}:(R++r::U).getD R.length []=r:=qce R U r []
theorem q9a {R U:List (List Int)} {r:List Int}:r∈R++r::U:=by simp
theorem q57 {p s:List Int} {j:Nat} (h:p.length≤j):(p++s).getD j 0=s.getD (j-p.length) 0:=by
 simp [waa,wah h]
theorem qjv {a b c:List Int} (htot:∀ T,Tab a c b.length T→(T.flatten.length:Int)=sumQ (fun k=>b.getD k 0) b.length) {T:List (List Int)} :
  ∀ {n:Nat} {R:List (List Int)} {s came:List Int},StS a b c R s came→10*(c.length-R.length)+(8-s.length)<n→(T∈refZ a b c n R s came↔Full a b c T∧GoS c R s T)
 | 0,R,s,came,h,hm=>by omega
 | n+1,R,s,came,h,hm=>by
  rw [refZ]
  by_cases hR:R.length=c.length
  ·rw [if_pos hR,wch];have hs:=h.fin hR;subst hs;have hT:Tab a c b.length R:=⟨hR,h.row,h.ent,h.ord⟩;constructor
   ·rintro rfl;refine ⟨⟨hT,?_,?_⟩,.inl ⟨hR,rfl⟩⟩
    ·have he:∀ x∈T.flatten,1≤x∧x≤(b.length:Int):=fun x hx=>by
      obtain ⟨r,hr,hxr⟩:=List.mem_flatten.1 hx;exact h.ent r hr x hxr
     have h1:=(quv he).symm.trans (htot T hT);have h2:=qp9 (f:=fun k=>((T.flatten.count ((k:Int)+1):Nat):Int)) (fun k hk=>?_) h1
     ·intro x hx1 hx2;have h3:=h2 (x-1).toNat (by omega)
      rw [show (((x-1).toNat:Nat):Int)+1=x by omega] at h3
      exact h3
     ·have h3:=h.cam ((k:Int)+1) (by omega) (by omega)
      have h4:=h.cle ((k:Int)+1) (by omega) (by omega)
      rw [show ((k:Int)+1-1).toNat=k by omega] at h3 h4
      rw [h3] at h4;simpa [cnt] using h4
    ·obtain ⟨L,h1,_⟩:=h.lat
     cases hx:ltA T with
     | none=>rw [hx] at h1;cases h1
     | some d=>rfl
   ·rintro ⟨_,hg⟩
    rcases hg with ⟨_,hg⟩ | ⟨hg,_⟩
    ·exact hg
    ·omega
  ·rw [if_neg hR];have hlt:R.length<c.length:=by have:=h.len;omega
   have hsl:=h.sl hlt;have hac:=h.ac R.length;have hg:∀ T:List (List Int),GoS c R s T↔∃ p U,T=R++(p++s)::U:=fun T=>⟨fun h=>by
    rcases h with ⟨h,_⟩ | ⟨_,h⟩
    ·omega
    ·exact h,fun h=>.inr ⟨hlt,h⟩⟩
   rw [← qbu]
   by_cases hc:rowF c R.length-1-s.length<rowF a R.length
   ·rw [if_pos hc];have hl:rowF a R.length+s.length=rowF c R.length:=by omega
    rw [qjv htot (h.close hlt hl) (by simp only [waf,wbf,wbm];omega),hg]
    refine and_congr_right fun hT=>?_
    constructor
    ·rintro (⟨_,rfl⟩ | ⟨_,p,U,rfl⟩)
     ·exact ⟨[],[],by simp⟩
     ·exact ⟨[],p::U,by simp⟩
    ·rintro ⟨p,U,rfl⟩;have hrow:=hT.1.row R.length (by simp)
     rw [qo0,waf] at hrow;have hp:p=[]:=List.length_eq_zero_iff.1 (by omega)
     subst hp;have hlen:=hT.1.len
     cases U with
     | nil=>exact .inl ⟨by simpa using hlen,by simp⟩
     | cons u U=>exact .inr ⟨by simp at hlen ⊢;omega,u,U,by simp⟩
   ·rw [if_neg hc,qet];constructor
    ·rintro ⟨x,hx1,hx2,hx⟩;split at hx
     ·cases hx
     ·rename_i hn;simp only [not_or] at hn;rw [← qbu] at hn;have h':=h.push hx1 (by omega) ⟨hlt,by omega⟩ hn.1 hn.2.1 hn.2.2.1 (by rw [← qbu];exact hn.2.2.2)
      have hx':=(qjv htot h' (by simp only [wbf];omega)).1 hx
      refine ⟨hx'.1,(hg T).2 ?_⟩
      rcases hx'.2 with ⟨h3,_⟩ | ⟨_,p,U,rfl⟩
      ·omega
      ·exact ⟨p++[x],U,by simp⟩
    ·rintro ⟨hT,hgo⟩;obtain ⟨q,U,rfl⟩:=(hg T).1 hgo;have hrow:=hT.1.row R.length (by simp)
     rw [qo0,waf] at hrow;have hq:q≠[]:=fun e=>by subst e;simp at hrow;omega
     obtain ⟨p,x,rfl⟩:∃ p x,q=p++[x]:=⟨q.dropLast,q.getLast hq,(List.dropLast_concat_getLast hq).symm⟩;simp only [waf,wbf,wbm] at hrow;obtain ⟨hx1,hx2⟩:=hT.1.ent _ q9a x (by simp)
     have hcnt:=hT.2.1 x hx1 hx2;rw [q24] at hcnt;have hcx:=h.cam x hx1 hx2;have n1:came.getD (x-1).toNat 0≠b.getD (x-1).toNat 0:=by
      rw [List.count_append,List.count_cons,beq_self_eq_true] at hcnt;simp only [if_true] at hcnt;omega
     have n2:¬ (1<x∧came.getD (x-2).toNat 0<came.getD (x-1).toNat 0+1):=by
      rintro ⟨k1,k2⟩;obtain ⟨L,g1,g2,g3⟩:=h.lat;have hb8:=h.b8 (x-1).toNat;have hcl:=h.cle x hx1 hx2;have hbl:=h.bl;have hL:=zcn hT.2.2;have e1:(fun c=>ltR c (p++[x]++s).reverse)=fun c=>(ltR c s.reverse).bind fun d=>ltR d (x::p.reverse):=by
       funext d;rw [List.reverse_append,List.reverse_append,q3t];rfl
      rw [e1,← Option.bind_assoc,g1] at hL;have h6:=g3 x hx1 hx2;have h7:=g3 (x-1) (by omega) (by omega)
      rw [show x-1-1=x-2 by omega] at h7
      have:ltS L x=none:=by
       rw [q76 hx1 (by omega) g2 (by omega),if_pos ⟨k1,by omega⟩]
      rw [show (some L).bind (fun d=>ltR d (x::p.reverse))=ltR L (x::p.reverse) from rfl,ltR,this] at hL
      cases hL
     have hord:=hT.1.ord R.length p.length (by simp) (by rw [qo0];simp)
     rw [qo0,show (p++[x]++s).getD p.length 0=x by simp] at hord
     have n3:¬ (s≠[]∧s.headD 0<x):=by
      rintro ⟨k1,k2⟩
      cases s with
      | nil=>exact k1 rfl
      | cons z s =>
       have h5:=(hT.1.ord R.length (p.length+1) (by simp) (by rw [qo0];simp)).1 (by omega)
       rw [qo0,wcc,show (p++[x]++z::s).getD p.length 0=x by simp,q57 (by simp)] at h5
       simp at h5 k2;omega
     have n4:¬ x≤atF a R ((R.length:Int)-1) (rowF c R.length-1-s.length):=by
      by_cases h0:0<R.length
      ·have h5:=hord.2 h0;rw [show rowF c R.length-1-s.length=rowF a R.length+p.length by omega]
       rw [qfz (T':=R) (qbq (by omega))] at h5
       omega
      ·rw [show ((R.length:Int)-1) = -1 by omega]
       simp [atF];omega
     refine ⟨x,hx1,by omega,?_⟩
     rw [if_neg (by simp only [not_or];exact ⟨n1,n2,n3,n4⟩)]
     rw [qjv htot (h.push hx1 hx2 ⟨hlt,by omega⟩ n1 n2 n3 (by rw [← qbu];exact n4)) (by simp only [wbf];omega)]
     exact ⟨hT,.inr ⟨hlt,p,U,by simp⟩⟩
theorem ql1 {a b c : List Int} (htot : ∀ T, Tab a c b.length T → (T.flatten.length:Int) = sumQ (fun k => b.getD k 0) b.length) :
    ∀ {n:Nat} {R:List (List Int)} {s came:List Int},StS a b c R s came→10*(c.length-R.length)+(8-s.length)<n→(refZ a b c n R s came).Nodup
  | 0,R,s,came,h,hm=>by omega
  | n+1,R,s,came,h,hm=>by
    rw [refZ]
    by_cases hR:R.length=c.length
    · rw [if_pos hR];simp
    · rw [if_neg hR]
      have hlt:R.length<c.length:=by have:=h.len;omega
      have hsl:=h.sl hlt;have hac:=h.ac R.length;rw [← qbu]
      by_cases hc:rowF c R.length-1-s.length<rowF a R.length
      · rw [if_pos hc]
        exact ql1 htot (h.close hlt (by omega)) (by simp only [waf,wbf,wbm];omega)
      · rw [if_neg hc]
        refine ql4 (fun x hx1 hx2=>?_) (fun x y t h1 h2 h3 hx hy=>?_)
        · split
          · exact List.nodup_nil
          · rename_i hn
            simp only [not_or] at hn;exact ql1 htot (h.push hx1 (by omega) ⟨hlt,by omega⟩ hn.1 hn.2.1 hn.2.2.1 (by rw [← qbu];exact hn.2.2.2)) (by simp only [wbf];omega)
        · have key : ∀ z, 1 ≤ z → z ≤ (b.length:Int) → t ∈ (if came.getD (z - 1).toNat 0 = b.getD (z - 1).toNat 0 ∨ (1 < z ∧ came.getD (z - 2).toNat 0 < came.getD (z - 1).toNat 0 + 1) ∨ (s ≠ [] ∧ s.headD 0 < z) ∨ z ≤ atF a R ((R.length:Int) - 1) (rowF c R.length - 1 - s.length) then []
              else refZ a b c n R (z::s) (came.set (z-1).toNat (came.getD (z-1).toNat 0+1)))→∃ p U,t=R++(p++z::s)::U:=by
            intro z hz1 hz2 hz;split at hz
            · cases hz
            · rename_i hn
              simp only [not_or] at hn;have:=((qjv htot (h.push hz1 hz2 ⟨hlt,by omega⟩ hn.1 hn.2.1 hn.2.2.1 (by rw [← qbu];exact hn.2.2.2)) (by simp only [wbf];omega)).1 hz).2
              rcases this with ⟨h3,_⟩ | ⟨_,p,U,h3⟩
              · omega
              · exact ⟨p,U,h3⟩
          obtain ⟨p,U,e1⟩:=key x h1 (by omega) hx
          obtain ⟨q,V,e2⟩:=key y (by omega) (by omega) hy
          have e3:=congrArg (fun t=>t.getD R.length []) (e1.symm.trans e2)
          simp only [qo0] at e3;have e4:=List.append_inj' e3 (by simp)
          have:=(List.cons.inj e4.2).1;omega
theorem q5z:qk4.goal Try.prog (spS [] [qvo]) qyr [900000] lm30:=by
 have e:(∀ (rows:List (List Int)) (out:Int),(ent8 rows∧0≤out∧out≤500000000)→zco rows out=some (true,rows,out+latN rows,()))=qk4.goal Try.prog (spS [] [qvo]) qyr [900000] lm30:=by kernel_rfl
 rw [← e];rintro rows out ⟨h8,h1,h2⟩;unfold zco latN;rw [wcb,wbl,qab (by omega),qab h8]
 cases latI rows with
 | true=>simp only [wbs];rw [qam (by omega)]
 | false=>simp
theorem zbn:qk4.Ok Try.prog:=SCon.of_goal qb4 (okC zdg okN) okS0 qk4 q5z
theorem e77c (n:Nat):(∀ (inner outer:List Int) (most:Int) (out:Int) (left:List Int) (rows:List (List Int)),preB (n+1) inner outer left most rows out→g77c n inner outer most out left rows=some (true,inner,outer,most,out+filL inner outer most (n+1) left rows,left,rows,()))=(qht (n+1)).goal Try.prog (spS [qk4,qht n] [qeb,qmi]) q4e ms77 lm30:=by kernel_rfl
theorem q94 (n:Nat):(qht (n+1)).goal Try.prog (spS [qk4,qht n] [qeb,qmi]) q4e ms77 lm30:=by
 rw [← e77c];rintro inner outer most out left rows ⟨hp,ho,hb⟩;have hcap:=hp.capR;have hmo:=hp.mo;have hil:=hp.il;have hol:=hp.ol;have hw2:wr .i64 ((rows.length:Int)-1+1)=(rows.length:Int):=(qam (by omega)).trans (by omega)
 have hw1:wr .i64 ((rows.length:Int)-1)=(rows.length:Int)-1:=qam (by omega)
 unfold g77c;simp only [hw1,hw2];have hn:(!ilt ((rows.length:Int)-1) 0)=true→0≤(rows.length:Int)-1:=fun h=>by
  by_cases h0:(rows.length:Int)-1<0
  ·rw [qak.2 h0] at h;cases h
  ·omega
 have hc1:qr6 inner outer rows=full inner outer rows:=by
  rcases List.eq_nil_or_concat rows with rfl | ⟨R,r,rfl⟩
  ·have h0:ilt (wr .i64 (((([]:List (List Int)).length:Nat):Int)-1)) 0=true:=by decide
   unfold qr6;rw [h0];rfl
  ·rw [List.concat_eq_append] at *;rw [qin];unfold qr6 qh9;simp only [hw1];have h1:(((R++[r]).length:Nat):Int)-1=R.length:=by simp
   rw [h1];have h2:ilt (R.length:Int) 0=false:=qag.2 (by omega)
   have h3:=hp.i0 R.length;have h4:=hp.o8 R.length;have h5:=hp.ins R.length;have h6:=hcap.2 r (by simp)
   rw [h2,wbr,wbj,wad,qa6,qam (by omega)]
   rfl
 simp only [imp_self,qac];rw [qab (by intro h;exact ⟨h,h,hn h,by omega⟩),qab (by intro h;exact ⟨h,h,hn h,by omega⟩),qab (by intro h;have:=hn h;exact ⟨h,by omega⟩),qab (by intro h;exact ⟨h,h⟩),qab (by intro h;exact ⟨h,h,hn h,by omega⟩),qab (by intro h;exact ⟨h,h⟩),qab (by intro h;simp [h]),hc1]
 cases hf:full inner outer rows with
 | true =>
  rw [wbs]
  by_cases hl:rows.length=outer.length
  ·have h1:ieq (rows.length:Int) (outer.length:Int)=true:=by rw [hl];exact qcb.2 rfl
   rw [h1,wbs];simp only [filL,fil,hf,if_true,if_pos hl];have hb2:out+1≤500000000:=by simpa [fil,hf,hl] using hb
   have h8:ent8 rows:=⟨by omega,fun r hr=>⟨Nat.le_trans (hcap.2 r hr) (by omega),fun x hx=>by have:=hp.ent r hr x hx;omega⟩⟩
   rw [qab ⟨h8,ho,by omega⟩]
   have hl2:latN rows=((List.filter latI [rows]).length:Int):=by unfold latN;cases hq:latI rows<;>simp [hq]
   rw [hl2]
  ·have h1:ieq (rows.length:Int) (outer.length:Int)=false:=qa5.2 (by omega)
   have h2:preB n inner outer left most (rows++[[]]) out:=⟨hp.open_ hf hl,ho,by simpa only [fil,hf,if_true,if_neg hl] using hb⟩
   simp only [h1,wbr,wbl,filL,fil,hf,if_true,if_neg hl];rw [qab (wae _),qab (by omega),qab (by simp),qab h2,qab (by simp;omega),qab (by simp)]
   simp
 | false =>
  rw [wbr]
  rcases List.eq_nil_or_concat rows with rfl | ⟨R,r,rfl⟩
  ·simp [full] at hf
  simp only [List.concat_eq_append] at *;have hlen:(((R++[r]).length:Nat):Int)-1=R.length:=by simp
  simp only [hlen] at hw1 hn ⊢;have hR:(R++[r]).length=R.length+1:=by simp
  have hr8:=hcap.2 r (by simp)
  have hlt:=hp.lt8 hf;have hi0:=hp.i0 R.length;have ho8:=hp.o8 R.length;have hR8:R.length+1≤8:=by rw [← hR];exact hcap.1
  have hc0:qh9 inner (R++[r])=rowF inner R.length+r.length:=by
   unfold qh9;rw [hlen,hw1,wbj,wad,qa6,qam (by omega)]
  have hw3:wr .i64 ((R.length:Int)-1)=(R.length:Int)-1:=qam (by omega)
  have hw4:wr .i64 (rowF inner R.length+r.length-1)=rowF inner R.length+r.length-1:=qam (by omega)
  have ha1:atP inner (R++[r]) ((R.length:Int)-1) (rowF inner R.length+r.length):=by
   refine ⟨by omega,by rw [hR];omega,by omega,by omega,fun h=>?_⟩
   have h1:=hp.fl (R.length-1) (by rw [hR];omega)
   have h2:(((R.length-1:Nat)):Int)=(R.length:Int)-1:=by omega
   rw [h2] at h1;have h3:=hp.i0 (R.length-1);have h4:=hp.o8 (R.length-1);have h5:=hp.od (R.length-1);have h6:((R.length-1+1:Nat):Int)=R.length:=by omega
   rw [h2] at h3 h4 h5;rw [h6] at h5;rw [show ((R.length:Int)-1).toNat=R.length-1 by omega]
   omega
  have ha2:r≠[]→atP inner (R++[r]) R.length (rowF inner R.length+r.length-1):=by
   intro hne;have:=List.length_pos_iff.2 hne;refine ⟨by omega,by rw [hR];omega,by omega,by omega,fun h=>?_⟩
   rw [wad,qa6];omega
  have hv2:r≠[]→atF inner (R++[r]) R.length (rowF inner R.length+r.length-1)=r.getLastD 0:=by
   intro hne;have:=List.length_pos_iff.2 hne;unfold atF;rw [if_neg (by omega),wad,qa6,show (rowF inner R.length+r.length-1-rowF inner R.length).toNat=r.length-1 by omega]
   rw [wb4,List.getLast?_eq_getElem?,waa]
  have hb1:=q8r (inner:=inner) (i:=(R.length:Int)-1) (j:=rowF inner R.length+r.length) hmo.1 hp.ent;have hc2:qru inner (R++[r])=atF inner (R++[r]) ((R.length:Int)-1) (rowF inner R.length+r.length):=by
   unfold qru;rw [wcb,wbl,hlen,hc0,qam (n:=(R.length:Int)) (by omega),hw3]
  have hc3:qwv (R++[r])=decide (r≠[]):=by
   unfold qwv;rw [hlen,qam (n:=(R.length:Int)) (by omega),wbj,wad,qa6]
   cases r<;>simp [ilt]
  have hc4:r≠[]→qvw inner (R++[r])=r.getLastD 0:=by
   intro hne;unfold qvw;rw [wcb,wbl,hlen,hc0,qam (n:=(R.length:Int)) (by omega),hw4,hv2 hne]
  have hw5:wr .i64 (atF inner (R++[r]) ((R.length:Int)-1) (rowF inner R.length+r.length)+1)=atF inner (R++[r]) ((R.length:Int)-1) (rowF inner R.length+r.length)+1:=qam (by omega)
  have hlf:=hp.lf rfl;simp only [filL,fil,hf] at hb ⊢;have hL:qcu inner (R++[r])=if r=[] then max 1 (atF inner (R++[r]) ((R.length:Int)-1) (rowF inner R.length+r.length)+1) else max (max 1 (atF inner (R++[r]) ((R.length:Int)-1) (rowF inner R.length+r.length)+1)) (r.getLastD 0):=by
   unfold qcu;rw [qih,show (((R++[r]).length:Nat):Int)-2=(R.length:Int)-1 by omega,hlen]
  have hL1:1≤qcu inner (R++[r]):=by rw [hL];split<;>omega
  simp only [wbb,if_false] at hb ⊢;simp only [hc0,hc2,hw3,hw4,hw5,hc3,wcb,wbl,wbj,wad,qab ha1];rw [qab ⟨by omega,by omega⟩,qab (by omega)]
  have hmem:∀ p:Nat,p<left.length→0≤left.getD p 0∧left.getD p 0≤8:=fun p hp=>by
   rw [waa,wab hp];exact hlf.2 _ (wav hp)
  have hpre:∀ (p:Nat) (s:Int),p<left.length→left.getD p 0≠0→0≤s∧s+(useX left false ((p:Int)+1) fun l=>fil inner outer most false n l (addX (R++[r]) ((p:Int)+1))).length≤500000000→preB n inner outer (left.set p (left.getD p 0-1)) most (R++[r++[(p:Int)+1]]) s:=by
   intro p s hp1 hp2 hs;have h1:=hmem p hp1;have e1:((p:Int)+1-1).toNat=p:=by omega
   simp only [useX,wbb,if_false,e1,if_neg hp2,qc7] at hs;refine ⟨hp.box hf ⟨by omega,by omega⟩ (fun _=>⟨by simpa using hlf.1,fun y hy=>?_⟩),hs.1,hs.2⟩
   rcases List.mem_or_eq_of_mem_set hy with h2 | h2
   ·exact hlf.2 y h2
   ·omega
  rcases Decidable.em (r=[]) with hr | hr
  ·rw [decide_eq_false (by simp [hr]),wbr]
   rw [if_pos hr] at hL;rw [qlz,← hL];rw [qab (by omega),qab (wae _),qab (wae _),qab ⟨by omega,by omega⟩,qab (by omega)]
   refine qg0 (fun (s:Int) b=>s+((b.filter latI).length:Int)) (fun (s:Int) b=>0≤s∧s+(b.length:Int)≤500000000) (fun s=>by simp) (fun s a b=>by simp only [List.filter_append,waf];omega) (fun s a b h=>by have:=List.length_filter_le latI a;simp only [waf] at h ⊢;omega)
    (fun x s=>(x,inner,outer,most,s,left,R++[r],())) (fun s=>(true,inner,outer,most,s,left,R++[r],())) (fun x=>useX left false x fun l=>fil inner outer most false n l (addX (R++[r]) x)) (qcu inner (R++[r])) most ?_ ?_ _ _ out (waw _) rfl ⟨ho,hb⟩
   ·intro x s hx1 hx2 hs;obtain ⟨p,rfl⟩:∃ p:Nat,x=(p:Int)+1:=⟨(x-1).toNat,by omega⟩
    have hpl:p<left.length:=by omega
    have hq:ile ((p:Int)+1) most=true:=qd9.2 hx2;have hx:wr .i64 ((p:Int)+1-1)=p:=(qam (by omega)).trans (by omega)
    have hx':wr .i64 ((p:Int)+1+1)=(p:Int)+1+1:=qam (by omega)
    have e1:((p:Int)+1-1).toNat=p:=by omega
    have hv:=hmem p hpl;simp only [qox,qdh,qhi,qlk,qny,qcg,qe9,qik,wbj,hq,wbs,hx,hx',wad,qa6,qg7,hR,useX,wbb,if_false,e1,qc7];rw [qab (by omega),qab ⟨by omega,by omega⟩,qab (by omega)]
    by_cases h0:left.getD p 0=0
    ·rw [qcb.2 h0,wbs,if_pos h0];simp
    ·rw [qa5.2 h0,wbr,if_neg h0];have hpr:=hpre p s hpl h0 hs;have h9:wr .i64 (left.getD p 0-1)=left.getD p 0-1:=qam (by omega)
     have h7:(left.set p (left.getD p 0-1)).getD p 0=left.getD p 0-1:=by simp [waa,wa5,hpl]
     have h8:wr .i64 (left.getD p 0-1+1)=left.getD p 0:=(qam (by omega)).trans (by omega)
     have h6:(left.set p (left.getD p 0-1)).set p (left.getD p 0)=left:=by
      have:=qm2 hpl
      rwa [h7,Int.sub_add_cancel] at this
     have h5:wr .i64 (((r.length+1:Nat):Int)-1)=r.length:=(qam (by omega)).trans (by omega)
     have h4:List.take r.length (r++[(p:Int)+1])=r:=by simp
     have h3:(R++[r++[(p:Int)+1]]).length=R.length+1:=by simp
     have h2:(r++[(p:Int)+1]).length=r.length+1:=by simp
     have q1:(0≤(p:Int)∧(p:Int)<(left.length:Int))=True:=eq_true ⟨by omega,by omega⟩
     have q2:(0≤(R.length:Int)∧(R.length:Int)<((R.length+1:Nat):Int))=True:=eq_true ⟨by omega,by omega⟩
     have q3:(left.length=0)=False:=eq_false (by omega)
     have q4:((r.length+1)*8≤1099511627776)=True:=eq_true (by omega)
     have q5:(0≤(r.length:Int)∧(r.length:Int)≤((r.length+1:Nat):Int))=True:=eq_true ⟨by omega,by omega⟩
     have h1:wr .i64 (((R.length+1:Nat):Int)-1)=R.length:=(qam (by omega)).trans (by omega)
     simp only [qox,qdh,qhi,qlk,qny,qcg,qe9,qik,hlen,hw1,hx,h1,wbl,h9,h7,h8,h6,h5,h4,h3,h2,hR,q1,q2,q3,q4,q5,wbj,wad,qa6,qg7,wak,Nat.lt_succ_self,wae,qac,not_false_eq_true,hpl,Nat.le_succ,qab hpr]
   ·intro x s hx;simp only [qdn.2 hx,wbr]
  ·rw [decide_eq_true hr,wbs,qab (ha2 hr)];rw [if_neg hr] at hL;rw [hc4 hr,qlz,qlz,← hL]
   repeat rw [qab (by omega)]
   repeat rw [qab ⟨by omega,by omega⟩]
   repeat rw [qab (by omega)]
   refine qg0 (fun (s:Int) b=>s+((b.filter latI).length:Int)) (fun (s:Int) b=>0≤s∧s+(b.length:Int)≤500000000) (fun s=>by simp) (fun s a b=>by simp only [List.filter_append,waf];omega) (fun s a b h=>by have:=List.length_filter_le latI a;simp only [waf] at h ⊢;omega)
    (fun x s=>(x,inner,outer,most,s,left,R++[r],())) (fun s=>(true,inner,outer,most,s,left,R++[r],())) (fun x=>useX left false x fun l=>fil inner outer most false n l (addX (R++[r]) x)) (qcu inner (R++[r])) most ?_ ?_ _ _ out (waw _) rfl ⟨ho,hb⟩
   ·intro x s hx1 hx2 hs;obtain ⟨p,rfl⟩:∃ p:Nat,x=(p:Int)+1:=⟨(x-1).toNat,by omega⟩
    have hpl:p<left.length:=by omega
    have hq:ile ((p:Int)+1) most=true:=qd9.2 hx2;have hx:wr .i64 ((p:Int)+1-1)=p:=(qam (by omega)).trans (by omega)
    have hx':wr .i64 ((p:Int)+1+1)=(p:Int)+1+1:=qam (by omega)
    have e1:((p:Int)+1-1).toNat=p:=by omega
    have hv:=hmem p hpl;simp only [qox,qdh,qhi,qlk,qny,qcg,qe9,qik,wbj,hq,wbs,hx,hx',wad,qa6,qg7,hR,useX,wbb,if_false,e1,qc7];rw [qab (by omega),qab ⟨by omega,by omega⟩,qab (by omega)]
    by_cases h0:left.getD p 0=0
    ·rw [qcb.2 h0,wbs,if_pos h0];simp
    ·rw [qa5.2 h0,wbr,if_neg h0];have hpr:=hpre p s hpl h0 hs;have h9:wr .i64 (left.getD p 0-1)=left.getD p 0-1:=qam (by omega)
     have h7:(left.set p (left.getD p 0-1)).getD p 0=left.getD p 0-1:=by simp [waa,wa5,hpl]
     have h8:wr .i64 (left.getD p 0-1+1)=left.getD p 0:=(qam (by omega)).trans (by omega)
     have h6:(left.set p (left.getD p 0-1)).set p (left.getD p 0)=left:=by
      have:=qm2 hpl
      rwa [h7,Int.sub_add_cancel] at this
     have h5:wr .i64 (((r.length+1:Nat):Int)-1)=r.length:=(qam (by omega)).trans (by omega)
     have h4:List.take r.length (r++[(p:Int)+1])=r:=by simp
     have h3:(R++[r++[(p:Int)+1]]).length=R.length+1:=by simp
     have h2:(r++[(p:Int)+1]).length=r.length+1:=by simp
     have q1:(0≤(p:Int)∧(p:Int)<(left.length:Int))=True:=eq_true ⟨by omega,by omega⟩
     have q2:(0≤(R.length:Int)∧(R.length:Int)<((R.length+1:Nat):Int))=True:=eq_true ⟨by omega,by omega⟩
     have q3:(left.length=0)=False:=eq_false (by omega)
     have q4:((r.length+1)*8≤1099511627776)=True:=eq_true (by omega)
     have q5:(0≤(r.length:Int)∧(r.length:Int)≤((r.length+1:Nat):Int))=True:=eq_true ⟨by omega,by omega⟩
     have h1:wr .i64 (((R.length+1:Nat):Int)-1)=R.length:=(qam (by omega)).trans (by omega)
     simp only [qox,qdh,qhi,qlk,qny,qcg,qe9,qik,hlen,hw1,hx,h1,wbl,h9,h7,h8,h6,h5,h4,h3,h2,hR,q1,q2,q3,q4,q5,wbj,wad,qa6,qg7,wak,Nat.lt_succ_self,wae,qac,not_false_eq_true,hpl,Nat.le_succ,qab hpr]
   ·intro x s hx;simp only [qdn.2 hx,wbr]
theorem q8z:(qht 0).Ok Try.prog:=qli _ (by kernel_rfl) (by
 have e:(∀ (inner outer:List Int) (most:Int) (out:Int) (left:List Int) (rows:List (List Int)) (p:List Prop),some [preB 0 inner outer left most rows out]=some p→¬ Ab.allP p)=(allD ((qht 0).ins.flatMap TV.ts++tsB (qht 0).ibl) fun env=>∀ p,(qht 0).pre env=some p→¬ Ab.allP p):=by kernel_rfl
 rw [← e];intro inner outer most out left rows p hp hq;cases hp;exact absurd (Ab.allP_one.1 hq).1.mu (by omega))
theorem zb8:∀ n,(qht n).Ok Try.prog
 | 0=>q8z
 | n+1=>SCon.of_goal qb4 (okC qv1 (okC za6 okN)) (okS zbn (okS (zb8 n) okS0)) (qht (n+1)) (q94 n)
theorem zam:qq9.goal Try.prog (spS [qht 81] [qmk]) q4y [18] lm30:=by
 have e:(∀ (inner outer m:List Int) (out:Int),(okIn inner outer m∧qgu m=true∧0≤out∧out≤1000000)→g68c inner outer m out=some (out+qsz inner outer m,()))=qq9.goal Try.prog (spS [qht 81] [qmk]) q4y [18] lm30:=by kernel_rfl
 rw [← e];rintro inner outer m out ⟨h,hm,ho,hb⟩;have h1:=h.il;have h2:=h.ol;have h3:=h.ml;have h4:=q7r (inner:=inner) (outer:=outer) hm;unfold g68c;rw [qab (by omega),qab (by omega),qab (by omega)]
 unfold qsz
 by_cases hs:wr .i64 (boxW outer-boxW inner)=boxW m
 ·rw [if_pos hs];rw [qcb.2 hs];simp only [wbi,wbr];rw [qab (by omega),qab (by omega),qab (by omega)]
  simp only [qac];rw [qab ⟨h.pre,ho,by omega⟩]
 ·rw [if_neg hs,qa5.2 hs];simp [qac]
theorem zd1:qq9.Ok Try.prog:=SCon.of_goal qb4 (okC ok86 okN) (okS (zb8 81) okS0) qq9 zam
theorem q89:qqc.goal Try.prog (spS [qq9] []) q1h [] lm30:=by
 have e:(∀ (inner outer m:List Int),(okIn inner outer m∧qgu m=true)→g71c inner outer m=some (qsz inner outer m,()))=qqc.goal Try.prog (spS [qq9] []) q1h [] lm30:=by kernel_rfl
 rw [← e];rintro inner outer m ⟨h,hm⟩;unfold g71c;rw [qab ⟨h,hm,by omega,by omega⟩,Int.zero_add]
theorem zdb:qqc.Ok Try.prog:=Con.of_goalS qb4 okN (okS zd1 okS0) qqc q89
theorem q9r:qqm.goal Try.prog (spOf [qeb]) q4s [] lm30:=by
 have e:(∀ (l c:List Int),(l.length≤1000∧c.length≤1000)→g115 l c=some (insB l c,()))=qqm.goal Try.prog (spOf [qeb]) q4s [] lm30:=by kernel_rfl
 rw [← e];rintro l c ⟨h1,h2⟩;unfold g115;have key:∀ (d i:Nat),i+d=l.length→((List.range i).all fun i=>decide (l.getD i 0≤rowF c i))=true →
   qat (fun (d2:Int×Unit)=>bif ilt d2.1 (↑(List.length l):Int) then gd ((0:Int)≤d2.1∧d2.1<(↑(List.length l):Int)) (gd ((0:Int)≤d2.1∧List.length c≤(1000:Nat)) (bif ilt (rowF c d2.1) (List.getD l (Int.toNat d2.1) (0:Int)) then some (Lp.out ((false,()):Bool×Unit)) else some (Lp.go ((wr .i64 (d2.1+(1:Int)),()):Int×Unit)))) else some (Lp.out ((true,()):Bool×Unit))) (((i:Int),()):Int×Unit)=some (insB l c,()):=by
  intro d
  induction d with
  | zero =>
   intro i hi ha;have hi:i=l.length:=by omega
   subst hi;refine qa8 ?_;simp only [qag.2 (waw _),wbr];unfold insB;rw [ha]
  | succ d ih =>
   intro i hi ha;have hlt:i<l.length:=by omega
   by_cases h:l.getD i 0≤rowF c i
   ·refine (qb9 (s':=(((i+1:Nat):Int),())) ?_).trans (ih (i+1) (by omega) ?_)
    ·simp only [qak.2 (show (i:Int)<(l.length:Int) by omega),wbs,wad]
     rw [qab ⟨by omega,by omega⟩,qab ⟨by omega,h2⟩,qag.2 h,wbr,qam (by omega)]
     rfl
    ·rw [List.range_succ,List.all_append,ha];simpa using h
   ·refine qa8 ?_;simp only [qak.2 (show (i:Int)<(l.length:Int) by omega),wbs,wad]
    rw [qab ⟨by omega,by omega⟩,qab ⟨by omega,h2⟩,qak.2 (by omega),wbs]
    have:insB l c=false:=by
     unfold insB;rw [List.all_eq_false];exact ⟨i,List.mem_range.2 hlt,by simpa using h⟩
    rw [this]
 exact key l.length 0 (by omega) rfl
theorem zdn:qqm.Ok Try.prog:=Con.of_goal qb4 (okC qv1 okN) qqm q9r
theorem qnz {l c:List Int} (hc:∀ i:Nat,0≤rowF c i):insB l c=true↔∀ i:Nat,rowF l i≤rowF c i:=by
 unfold insB;rw [wb9];constructor
 ·intro h i
  by_cases hi:i<l.length
  ·have:=of_decide_eq_true (h i (List.mem_range.2 hi));unfold rowF at this ⊢;rw [if_neg (by omega),wad] at this ⊢
   exact this
  ·have:=hc i;unfold rowF at this ⊢;rw [if_neg (by omega),wad] at this ⊢
   rw [waa,wac (by omega)]
   exact this
 ·intro h i hi;have:=h i;unfold rowF at this ⊢;rw [if_neg (by omega),wad] at this ⊢
  exact decide_eq_true this
theorem qld {b:List Int} (h:qad b=true):qgu b=true:=by
 obtain ⟨p,hp,rfl,h8,_,hs⟩:=qef h;have:∀ p∈Go.Schur.allP,qgu (toI p)=true:=by decide +kernel
 exact this p hp
theorem zca:q0j.goal Try.prog (spOf [qqm,qqc]) q8p [] lm30:=by
 have e:(∀ (a b c:List Int),(sh3 a b c)→g96 a b c=some (qjo a b c,()))=q0j.goal Try.prog (spOf [qqm,qqc]) q8p [] lm30:=by kernel_rfl
 rw [← e];rintro a b c ⟨ha,hb,hc⟩;have h1:=(qal.1 ha).1;have h2:=(qal.1 hc).1;unfold g96 qjo;rw [qab ⟨by omega,by omega⟩]
 cases hi:insB a c with
 | false=>simp
 | true =>
  simp only [wbi,wbr,if_true];rw [qab ⟨qv2 ha hc (qld hb) ((qnz fun i=>(qaz hc i).1).1 hi),qld hb⟩]
theorem ok96:q0j.Ok Try.prog:=Con.of_goal qb4 (okC zdn (okC zdb okN)) q0j zca
theorem zbq:q0t.goal Try.prog (spOf [qmp,q0j]) q7l [] lm30:=by
 have e:(∀ (a b c:List Int),(a.length≤1000∧b.length≤1000∧c.length≤1000)→g53 a b c=some (qr8 a b c))=q0t.goal Try.prog (spOf [qmp,q0j]) q7l [] lm30:=by kernel_rfl
 rw [← e];rintro a b c ⟨h1,h2,h3⟩;unfold g53 qr8;rw [qab h1]
 cases ha:qad a with
 | false=>simp [qac]
 | true =>
  cases hb:qad b with
  | false=>simp [qac,h2]
  | true =>
   cases hc:qad c with
   | false=>simp [qac,h2,h3]
   | true=>simp [qac,h2,h3,sh3,ha,hb,hc]
theorem ok53:q0t.Ok Try.prog:=Con.of_goal qb4 (okC ok66 (okC ok96 okN)) q0t zbq
theorem qzc {f g:Nat→Int}:∀ {n:Nat},sumQ (fun k=>f k-g k) n=sumQ f n-sumQ g n
 | 0=>rfl
 | n+1=>by rw [sumQ,sumQ,sumQ,qzc];omega
theorem qsc {A:Type} {Q:List A→Prop} (h0:Q []) (h1:∀ R r,Q R→Q (R++[r])):∀ (n:Nat) (l:List A),l.length=n→Q l
 | 0,l,h=>by rw [List.length_eq_zero_iff.1 h];exact h0
 | n+1,l,h=>by
  rcases List.eq_nil_or_concat l with rfl | ⟨R,r,rfl⟩
  ·simp at h
  ·rw [List.concat_eq_append] at *;exact h1 R r (qsc h0 h1 n R (by simpa using h))
theorem q51 {T:List (List Int)}:(T.flatten.length:Int)=sumQ (fun k=>((T.getD k []).length:Int)) T.length:=by
 refine qsc (Q:=fun T:List (List Int)=>(T.flatten.length:Int)=sumQ (fun k=>((T.getD k []).length:Int)) T.length) rfl (fun R r ih=>?_) T.length T rfl
 rw [List.flatten_append,waf,waf,wbf,wbm,wbj,sumQ,qa6];rw [qfe (g:=fun k=>((R.getD k []).length:Int)) fun k hk=>by rw [qc5 _ _ _ hk],← ih]
 simp
theorem qm9 {l:List Int} {m:Nat} (h:l.length≤m):sumQ (fun k=>l.getD k 0) m=l.sum:=by
 have key:∀ (l:List Int),∀ m,l.length≤m→sumQ (fun k=>l.getD k 0) m=l.sum:=by
  intro l;refine qsc (Q:=fun l:List Int=>∀ m,l.length≤m→sumQ (fun k=>l.getD k 0) m=l.sum) (fun m _=>?_) (fun l x ih=>?_) l.length l rfl
  ·rw [qfe (g:=fun _=>0) fun k _=>by simp,qpb];rfl
  ·intro m
   induction m with
   | zero=>intro h;simp at h
   | succ m ihm =>
    intro h;simp only [waf,wbf,wbm] at h;rw [sumQ]
    by_cases e:m=l.length
    ·subst e;rw [qfe (g:=fun k=>l.getD k 0) fun k hk=>by simp [waa,wag hk],ih _ (wae _)]
     simp [waa]
    ·rw [ihm (by simp;omega),show (l++[x]).getD m 0=0 by rw [waa,wac (by simp;omega)];rfl,Int.add_zero]
 exact key l m h
theorem zah {a b c:List Int} {T:List (List Int)} (hl:a.length≤c.length) (hs:a.sum+b.sum=c.sum) (h:Tab a c b.length T):(T.flatten.length:Int)=sumQ (fun k=>b.getD k 0) b.length:=by
 rw [q51,qm9 (wae _),h.len,qfe (g:=fun k=>c.getD k 0-a.getD k 0) fun k hk=>?_,qzc,qm9 (wae _),qm9 hl]
 ·omega
 ·have:=h.row k (by rw [h.len];exact hk)
  rw [qbu,qbu] at this;omega
theorem qob {A:Type} {g:Int→List A}:∀ {c:Nat} {x:Int},((catX g c x).length:Int)=sumX (fun y=>((g y).length:Int)) c x
 | 0,x=>rfl
 | c+1,x=>by rw [catX,sumX,waf,← qob];omega
theorem qrh {f g:Int→Int}:∀ {c:Nat} {x:Int},(∀ y,x≤y→y<x+c→f y=g y)→sumX f c x=sumX g c x
 | 0,x,_=>rfl
 | c+1,x,h=>by rw [sumX,sumX,h x (by omega) (by omega),qrh fun y h1 h2=>h y (by omega) (by omega)]
structure GrS (a c:List Int) (R:List (List Int)) (s:List Int) (grid:List (List Int)):Prop where
 gl:grid.length=c.length
 gr:∀ k:Nat,((grid.getD k []).length:Int)=rowF c k
 old:∀ k j:Nat,k<R.length→rowF a k≤j→(j:Int)<rowF c k→grd grid k j=(R.getD k []).getD ((j:Int)-rowF a k).toNat 0
 new:∀ t:Nat,t<s.length→grd grid R.length (rowF c R.length-s.length+t)=s.getD t 0
theorem qso {T:List (List Int)} {i j:Nat}:grd T i j=(T.getD i []).getD j 0:=by unfold grd;rw [wad,wad]
theorem qxc {T:List (List Int)} {i j k m:Nat} {x:Int} (hi:i<T.length) (hj:j<(T.getD i []).length) :
  ((T.set i ((T.getD i []).set j x)).getD k []).getD m 0=if i=k∧j=m then x else (T.getD k []).getD m 0:=by
 by_cases h:i=k
 ·subst h;have:(T.set i ((T.getD i []).set j x)).getD i []=(T.getD i []).set j x:=by simp [waa,List.getElem?_set_self hi]
  rw [this,qft hj]
  by_cases h2:j=m
  ·rw [if_pos h2,if_pos ⟨rfl,h2⟩]
  ·rw [if_neg h2,if_neg (fun h=>h2 h.2)]
 ·have:(T.set i ((T.getD i []).set j x)).getD k []=T.getD k []:=by simp [waa,wai h]
  rw [this,if_neg (fun h2=>h h2.1)]
theorem qsi {a b c:List Int} (hcd:∀ k:Nat,rowF c (k+1:Nat)≤rowF c k):∀ {n:Nat} {R:List (List Int)} {s came:List Int} {grid:List (List Int)},StS a b c R s came→GrS a c R s grid →
  10*(c.length-R.length)+(8-s.length)<n→refU a b c n grid came R.length s.length=((refZ a b c n R s came).length:Int)
 | 0,R,s,came,grid,h,hg,hm=>by omega
 | n+1,R,s,came,grid,h,hg,hm=>by
  rw [refU,refZ]
  by_cases hR:R.length=c.length
  ·rw [if_pos (by omega),if_pos hR];rfl
  ·rw [if_neg (by omega),if_neg hR]
   have hlt:R.length<c.length:=by have:=h.len;omega
   have hsl:=h.sl hlt;have hac:=h.ac R.length;rw [wad,← qbu]
   by_cases hc:rowF c R.length-1-s.length<rowF a R.length
   ·rw [if_pos hc,if_pos hc];have hl:rowF a R.length+s.length=rowF c R.length:=by omega
    have e:((R.length:Int)+1)=((R++[s]).length:Int):=by simp
    rw [e,show (0:Int)=(([]:List Int).length:Int) from rfl]
    refine qsi hcd (h.close hlt hl) ⟨hg.gl,hg.gr,fun k j hk h1 h2=>?_,fun t ht=>by simp at ht⟩ (by simp only [waf,wbf,wbm];omega)
    simp only [waf,wbf,wbm] at hk
    by_cases e:k=R.length
    ·subst e;rw [qa6];have:=hg.new ((j:Int)-rowF a R.length).toNat (by omega)
     rw [show rowF c R.length-s.length+(((j:Int)-rowF a R.length).toNat:Nat)=(j:Int) by omega] at this
     exact this
    ·rw [qc5 _ _ _ (by omega)];exact hg.old k j (by omega) h1 h2
   ·rw [if_neg hc,if_neg hc,qob];refine qrh fun x hx1 hx2=>?_
    generalize hj:(rowF c R.length-1-s.length).toNat=j;have hjj:rowF c R.length-1-s.length=j:=by omega
    have h3:(decide (0<(s.length:Int)) && decide (grd grid R.length (rowF c R.length-1-s.length+1)<x))=true↔s≠[]∧s.headD 0<x:=by
     cases s with
     | nil=>simp
     | cons z s =>
      have:=hg.new 0 (by simp)
      rw [show rowF c R.length-((z::s).length:Int)+((0:Nat):Int)=rowF c R.length-1-((z::s).length:Int)+1 by omega] at this
      rw [this];simp
    have h4:(decide (0<(R.length:Int)) && (decide (rowF a ((R.length:Int)-1)≤rowF c R.length-1-s.length) && decide (x≤grd grid ((R.length:Int)-1) (rowF c R.length-1-s.length))))=true↔x≤atF a R ((R.length:Int)-1) (rowF c R.length-1-s.length):=by
     rw [hjj]
     by_cases h0:0<R.length
     ·obtain ⟨q,hq⟩:∃ q,R.length=q+1:=⟨R.length-1,by omega⟩
      have e1:((R.length:Int)-1)=(q:Int):=by omega
      have hcq:=hcd q;rw [e1];unfold atF
      by_cases h5:rowF a q≤j
      ·rw [if_neg (by omega),hg.old q j (by omega) h5 (by rw [hq] at hjj hac;omega),wad]
       simp [h5,h0]
      ·rw [if_pos (by omega)]
       simp [h5];omega
     ·rw [show ((R.length:Int)-1) = -1 by omega]
      simp [atF,h0];omega
    have hst:q6m a b grid came R.length (rowF c R.length-1-s.length) s.length x=true↔(came.getD (x-1).toNat 0=b.getD (x-1).toNat 0∨(1<x∧came.getD (x-2).toNat 0<came.getD (x-1).toNat 0+1)∨(s≠[]∧s.headD 0<x)∨x≤atF a R ((R.length:Int)-1) (rowF c R.length-1-s.length)):=by
     unfold q6m;rw [wbw,wbw,wbw,h3,h4,wbc,decide_eq_true_iff,decide_eq_true_iff,decide_eq_true_iff,or_assoc,or_assoc]
    by_cases hs:q6m a b grid came R.length (rowF c R.length-1-s.length) s.length x=true
    ·rw [if_pos hs,if_pos (hst.1 hs)];rfl
    ·rw [if_neg hs,if_neg (fun h=>hs (hst.2 h))]
     obtain ⟨k1,k2⟩:=not_or.1 (fun h=>hs (hst.2 h))
     obtain ⟨k2,k3⟩:=not_or.1 k2;obtain ⟨k3,k4⟩:=not_or.1 k3;have h':=h.push hx1 (by omega) ⟨hlt,by omega⟩ k1 k2 k3 (by rw [← qbu];exact k4)
     rw [show (s.length:Int)+1=((x::s).length:Int) by simp]
     have hjl:j<(grid.getD R.length []).length:=by have:=hg.gr R.length;omega
     have hil:R.length<grid.length:=by rw [hg.gl];exact hlt
     refine qsi hcd h' ⟨by rw [wak];exact hg.gl,fun k=>?_,fun k m hk h1 h2=>?_,fun t ht=>?_⟩ (by simp only [wbf];omega)
     ·rw [← hg.gr k]
      by_cases e:R.length=k
      ·subst e;simp [waa,List.getElem?_set_self hil]
      ·simp [waa,wai e]
     ·rw [qso,qxc hil hjl,if_neg (fun h=>by omega),← qso]
      exact hg.old k m hk h1 h2
     ·obtain ⟨m,hm⟩:∃ m:Nat,rowF c R.length-((x::s).length:Int)+(t:Int)=m:=⟨(rowF c R.length-((x::s).length:Int)+(t:Int)).toNat,by simp only [wbf];omega⟩
      rw [hm,qso,qxc hil hjl];simp only [wbf] at hm
      cases t with
      | zero=>rw [if_pos ⟨rfl,by omega⟩];rfl
      | succ t =>
       rw [if_neg (fun h=>by omega),← qso]
       have:=hg.new t (by simpa using ht)
       rw [show rowF c R.length-(s.length:Int)+(t:Int)=(m:Int) by omega] at this
       rw [this];rfl
theorem qrn {b:List Int} (h:qad b=true) (k:Nat):0≤b.getD k 0∧b.getD k 0≤8:=by
 have:=qaz h k;rw [qbu] at this;exact ⟨this.1,this.2.1⟩
theorem qgn {b:List Int} (h:qad b=true):boxW b=b.sum∧0≤b.sum∧b.sum≤8∧b.length≤8:=by
 obtain ⟨p,hp,rfl,hp8,_,hs⟩:=qef h;rw [ql5 hp8.len hs,qju];exact ⟨rfl,by omega,by omega,(qal.1 h).1⟩
theorem q4z {a:List Int} (h:qad a=true) {k:Nat} (hk:k<a.length):1≤a.getD k 0:=by
 obtain ⟨p,hp,rfl,hp8,h1,hs⟩:=qef h;rw [qhz];have hk':k<p.length:=by simpa [toI] using hk
 have:=h1 (p.getD k 0) (by rw [waa,wab hk'];exact wav hk')
 omega
theorem q8s {a c:List Int} (ha:qad a=true) (hc:qad c=true) (h:insB a c=true):a.length≤c.length:=by
 rcases Nat.lt_or_ge c.length a.length with h1 | h1
 ·exfalso;have h2:=(qnz fun i=>(qaz hc i).1).1 h c.length
  have h3:=q4z ha h1;rw [qbu,qbu,waa (l:=c),wac (wae _)] at h2;simp only [Option.getD_none] at h2;omega
 ·exact h1
theorem qna {n i:Nat}:(List.replicate n (0:Int)).getD i 0=0:=by
 rw [waa,wa6];split<;>rfl
theorem stS0 {a b c:List Int} (ha:qad a=true) (hb:qad b=true) (hc:qad c=true) (h:insB a c=true):StS a b c [] [] (List.replicate b.length 0) where
 bl:=(qal.1 hb).1
 b8:=qrn hb
 ac:=fun k=>⟨(qaz ha k).1,(qnz fun i=>(qaz hc i).1).1 h k,(qaz hc k).2.1⟩
 len:=Nat.zero_le _
 fin:=fun _=>rfl
 row:=fun k hk=>by simp at hk
 sl:=fun _=>by
  have:=(qnz fun i=>(qaz hc i).1).1 h 0
  show ((0:Nat):Int)≤rowF c ((0:Nat):Int)-rowF a ((0:Nat):Int);omega
 ent:=fun r hr=>nomatch hr
 ens:=fun r hr=>nomatch hr
 ord:=fun i j hi=>by simp at hi
 srt:=List.Pairwise.nil
 abv:=fun t ht=>by simp at ht
 ml:=by simp
 cam:=fun x h1 h2=>by
  rw [qna];simp [cnt]
 cle:=fun x h1 h2=>by
  have:=(qrn hb (x-1).toNat).1;rw [qna];exact this
 lat:=by
  refine ⟨List.replicate 9 0,rfl,rfl,fun x h1 h2=>?_⟩
  rw [qna,qna]
theorem grS0 {a c:List Int} (hc:qad c=true):GrS a c [] [] (q52 c) where
 gl:=by simp [q52]
 gr:=fun k=>by
  rw [qbu];unfold q52
  by_cases h:k<c.length
  ·have:=(qrn hc k).1;rw [waa,wab h] at this;simp only [Option.getD_some] at this;simp [waa,wab h];omega
  ·simp [waa,wac (show c.length≤k by omega)]
 old:=fun k j hk=>by simp at hk
 new:=fun t ht=>by simp at ht
theorem qyi {a b c:List Int} (h3:sh3 a b c):refR a b c=qjo a b c:=by
 obtain ⟨ha,hb,hc⟩:=h3;have sa:=qgn ha;have sb:=qgn hb;have sc:=qgn hc;have hw:wr .i64 (boxW c-boxW a)=boxW c-boxW a:=qam (by omega)
 unfold refR qjo qsz;rw [hw]
 by_cases hi:insB a c=true
 ·by_cases hs:boxW a+boxW b=boxW c
  ·rw [if_pos ⟨hs,hi⟩,if_pos hi,if_pos (by omega)]
   have hlen:=q8s ha hc hi;have htot:∀ T,Tab a c b.length T→(T.flatten.length:Int)=sumQ (fun k=>b.getD k 0) b.length:=fun T hT=>zah hlen (by omega) hT
   have hst:=stS0 ha hb hc hi;have hc8:=sc.2.2.2;have h1:=qsi (n:=100) (fun k=>(qaz hc k).2.2) hst (grS0 hc) (by simp;omega)
   simp only [wbm] at h1;rw [show ((0:Nat):Int)=0 from rfl] at h1
   rw [h1];unfold filL;congr 1;have hok:=qv2 ha hc (qld hb) ((qnz fun i=>(qaz hc i).1).1 hi)
   have hsum:Sums a c b b.length [] (sumN b):=⟨fun T hT=>by
    have:=htot T hT;rw [qm9 (wae _),← qrz fun x hx=>(hok.m8 x hx).1] at this
    omega,by simp⟩
   refine (List.Perm.length_eq ?_);refine (List.perm_ext_iff_of_nodup (ql1 htot hst (by simp;omega)) (qh3.filter _)).2 fun T=>?_
   rw [qjv htot hst (by simp;omega),waz,qsb hok.pre (fun i j hi=>by simp at hi) (fun _=>hsum)]
   have hgo:GoS c [] [] T↔(c.length=0→T=[])∧(0<c.length→T≠[]):=by
    unfold GoS;simp only [wbm,wbu,wci];constructor
    ·rintro (⟨h0,rfl⟩ | ⟨h0,p,U,rfl⟩)
     ·exact ⟨fun _=>rfl,fun h=>by omega⟩
     ·exact ⟨fun h=>by omega,fun _=>by simp⟩
    ·rintro ⟨g1,g2⟩
     by_cases h0:c.length=0
     ·exact .inl ⟨h0.symm,g1 h0⟩
     ·refine .inr ⟨by omega,?_⟩
      cases T with
      | nil=>exact absurd rfl (g2 (by omega))
      | cons p U=>exact ⟨p,U,rfl⟩
   have hgo2:Tab a c b.length T→GoS c [] [] T:=fun hT=>hgo.2 ⟨fun h0=>List.length_eq_zero_iff.1 (by rw [hT.len];exact h0),fun h0 h=>by have:=hT.len;rw [h] at this;simp at this;omega⟩
   unfold Full Left latI;constructor
   ·rintro ⟨⟨g1,g2,g3⟩,_⟩;exact ⟨⟨g1,.nil _,fun _ x hx1 hx2=>by rw [← g2 x hx1 hx2];simp [cnt]⟩,g3⟩
   ·rintro ⟨⟨g1,_,g2⟩,g3⟩;refine ⟨⟨g1,fun x hx1 hx2=>?_,g3⟩,hgo2 g1⟩
    have:=g2 rfl x hx1 hx2;simp [cnt] at this ⊢;omega
  ·rw [if_neg (fun h=>hs h.1),if_pos hi,if_neg (by omega)]
 ·rw [if_neg (fun h=>hi h.2),if_neg hi]
section
variable {n:Nat} {a b c:List Int} {grid:List (List Int)} {came:List Int} {i gone:Int}
theorem preU.next (h:preU (n+1) a b c grid came i gone) (hi:i<c.length):preU n a b c grid came (i+1) 0:=by
 have h0:=h.i0.1;have hm:=h.mu;refine { h with i0:=⟨by omega,by omega⟩,g0:=⟨waw _,fun hlt=>?_⟩,mu:=by omega }
 have h1:=h.ac (i+1).toNat;rw [show (((i+1).toNat:Nat):Int)=i+1 by omega] at h1
 unfold rowF at h1 ⊢;rw [if_neg (by omega)] at h1 ⊢
 rw [if_neg (by omega)] at h1
 omega
theorem preU.box {x:Int} (h:preU (n+1) a b c grid came i gone) (hi:i<c.length) (hj:rowF a i≤c.getD i.toNat 0-1-gone) (h1:1≤x) (hx:x≤b.length) (hne:came.getD (x-1).toNat 0≠b.getD (x-1).toNat 0) :
  preU n a b c (grid.set i.toNat ((grid.getD i.toNat []).set (c.getD i.toNat 0-1-gone).toNat x)) (came.set (x-1).toNat (came.getD (x-1).toNat 0+1)) i (gone+1):=by
 have h0:=h.i0.1;have hm:=h.mu;have hg:=h.g0;have hl:=h.gl;have hc8:=h.c8 i.toNat;rw [qbu] at hc8;have ha0:=h.a0 i.toNat;rw [show ((i.toNat:Nat):Int)=i by omega] at ha0
 refine { h with ml:=by rw [wak];exact h.ml,m8:=fun k=>?_,gl:=by rw [wak];exact h.gl,gr:=fun k=>?_,g0:=⟨by omega,fun _=>by omega⟩,mu:=by omega }
 ·have hml:=h.ml;rw [qft (by omega)]
  split
  ·rename_i e;have:=h.m8 (x-1).toNat;rw [← e];omega
  ·exact h.m8 k
 ·rw [← h.gr k]
  by_cases e:i.toNat=k
  ·subst e;simp [waa,List.getElem?_set_self (show i.toNat<grid.length by omega)]
  ·simp [waa,wai e]
end
def eqT (a b:za9):Bool:=decide (a.1=b.1) && decide (a.2.1=b.2.1)
end
end Go.Schur
