/- Swaps: contracts. -/
import Derived.Test.YtobghbapmlnmoaaXP
import Derived.Test.YtobghbapmlnmoaaXD
set_option linter.unusedVariables false
set_option linter.unusedSimpArgs false
namespace Go.Schur
noncomputable section
open Go Go.Ab Go.Proofs
def tabF (t:List (List Int)):List (List Int):=(t.take 12).map fun r=>r.take 12
def qs5:Con:=mkC 32 [.d LLI] [LLI] (fun (t:List (List Int))=>[small t]) (fun (t:List (List Int))=>(tabF t,()))
def g32 (x0:List (List Int)):Option (List (List Int)×Unit):=gd ((0:Nat)=0) (qat (fun (d1:Int×List (List Int)×Unit)=>bif ilt d1.1 (↑(List.length x0):Int) then gd (0≤d1.1∧d1.1<(↑(List.length x0):Int)) (bif ilt d1.1 12 then gd (List.length d1.2.1≤List.length d1.2.1) (gd ((List.length d1.2.1+1)*(24:Nat)≤1099511627776) (gd (List.length d1.2.1+1=List.length (List.take (List.length d1.2.1) d1.2.1++List.take 12 (List.getD x0 (Int.toNat d1.1) ([]:List Int))::([]:List (List Int)))) (some (Lp.go ((wr .i64 (d1.1+1),List.take (List.length d1.2.1) d1.2.1++List.take 12 (List.getD x0 (Int.toNat d1.1) ([]:List Int))::([]:List (List Int)),()):Int×List (List Int)×Unit))))) else gd (List.length d1.2.1=List.length d1.2.1) (some (Lp.go ((wr .i64 (d1.1+1),d1.2.1,()):Int×List (List Int)×Unit)))) else gd (0+List.length d1.2.1≤List.length d1.2.1) (some (Lp.out ((List.take (List.length d1.2.1) (List.drop 0 d1.2.1),()):List (List Int)×Unit)))) ((0,([]:List (List Int)),()):Int×List (List Int)×Unit))
def q7e:List LSh:=LSh.mk (((3,TV.slf (0) (1)):Nat×TV)::((8,TV.v (Ty.int .i64)):Nat×TV)::([]:List (Nat×TV))) (TB.arr (Ty.slice (Ty.int .i64)) true::([]:List TB))::([]:List LSh)
def mtB (r:List Int):Bool:=decide (r.length=0)
def okL2 (rows:List (List Int)):Prop:=rows.length≤1000∧∀ r∈rows,r.length≤1000
def el (rows:List (List Int)) (i j:Nat):Int:=(rows.getD i []).getD j 0
def q6s (rows:List (List Int)) (k:Int) (i j:Nat):Bool:=(decide (el rows i j=k) && !(decide (j<(rows.getD (i+1) []).length) && decide (el rows (i+1) j=k+1))) || (decide (el rows i j=k+1) && !(decide (0<i) && decide (el rows (i-1) j=k)))
def qma:Con:=mkC 93 [.d LI,.d I64] [I64] (fun (l:List Int) (i:Int)=>[l.length≤1000]) (fun (l:List Int) (i:Int)=>(rowF l i,()))
def g93p (x0:List Int) (x1:Int):Option (Int×Unit):=gd ((!ilt x1 0)=true→(!ilt x1 0)=true) (gd ((!ilt x1 0)=true→(!ilt x1 0)=true∧(!ilt x1 0)=true) (gd (ilt x1 0=false→(!ilt x1 0)=true) (bif bif ilt x1 0 then true else ile (↑(List.length x0):Int) x1 then some ((0,()):Int×Unit) else gd (0≤x1∧x1<(↑(List.length x0):Int)) (some ((List.getD x0 (Int.toNat x1) 0,()):Int×Unit)))))
def q32:List LSh:=([]:List LSh)
def qbd:List Int→List Int
 | []=>[]
 | x::l=>if qbd l=[]∧x=0 then [] else x::qbd l
def outF (inner:List Int) (rows:List (List Int)) (n:Nat):List Int:=(List.range n).map fun (i:Nat)=>rowF inner (i:Int)+((rows.getD i []).length:Int)
def q0q:Con:=mkC 90 [.d LI,.d LLI] [LI] (fun (inner:List Int) (rows:List (List Int))=>[qad inner=true∧okL2 rows]) (fun (inner:List Int) (rows:List (List Int))=>(qbd (outF inner rows rows.length),()))
open List Int in
def g90 (x0:List Int) (x1:List (List Int)):Option (List Int×Unit):=gd ((0:Nat)=0) (qat (fun (d2:Int×List Int×Unit)=>bif ilt d2.1 (↑(length x1):Int) then gd (0≤d2.1∧d2.1<(↑(length x1):Int)) (gd (length x0≤1000) (gd (length d2.2.1≤length d2.2.1) (gd ((length d2.2.1+1)*(8:Nat)≤1099511627776) (gd (length d2.2.1+1=length (take (length d2.2.1) d2.2.1++wr .i64 (rowF x0 d2.1+(↑(length (getD x1 (toNat d2.1) ([]:List Int))):Int))::([]:List Int))) (some (Lp.go ((wr .i64 (d2.1+1),take (length d2.2.1) d2.2.1++wr .i64 (rowF x0 d2.1+(↑(length (getD x1 (toNat d2.1) ([]:List Int))):Int))::([]:List Int),()):Int×List Int×Unit))))))) else gd (length d2.2.1=length d2.2.1) (qat (fun (d3:List Int×Unit)=>gd (ilt 0 (↑(length d3.1):Int)=true→ilt 0 (↑(length d3.1):Int)=true) (gd (ilt 0 (↑(length d3.1):Int)=true→ilt 0 (↑(length d3.1):Int)=true) (gd (ilt 0 (↑(length d3.1):Int)=true→ilt 0 (↑(length d3.1):Int)=true∧ilt 0 (↑(length d3.1):Int)=true∧0≤wr .i64 ((↑(length d3.1):Int)-1)∧wr .i64 ((↑(length d3.1):Int)-1)<(↑(length d3.1):Int)) (gd (ilt 0 (↑(length d3.1):Int)=true→ilt 0 (↑(length d3.1):Int)=true∧0+toNat (wr .i64 ((↑(length d3.1):Int)-1))<length d3.1) (gd (ilt 0 (↑(length d3.1):Int)=true→ilt 0 (↑(length d3.1):Int)=true) (gd (ilt 0 (↑(length d3.1):Int)=true→ilt 0 (↑(length d3.1):Int)=true) (bif bif ilt 0 (↑(length d3.1):Int) then ieq (getD d3.1 (0+toNat (wr .i64 ((↑(length d3.1):Int)-1))) 0) 0 else false then gd (0≤wr .i64 ((↑(length d3.1):Int)-1)∧wr .i64 ((↑(length d3.1):Int)-1)≤(↑(length d3.1):Int)) (gd (toNat (wr .i64 ((↑(length d3.1):Int)-1))=length (take (toNat (wr .i64 ((↑(length d3.1):Int)-1))) d3.1)) (some (Lp.go ((take (toNat (wr .i64 ((↑(length d3.1):Int)-1))) d3.1,()):List Int×Unit)))) else gd (0+length d3.1≤length d3.1) (some (Lp.out (Lp.out ((take (length d3.1) (drop 0 d3.1),()):List Int×Unit))))))))))) ((d2.2.1,()):List Int×Unit))) ((0,([]:List Int),()):Int×List Int×Unit))
def q79:List LSh:=LSh.mk (((5,TV.slf (0) (1)):Nat×TV)::((10,TV.v (Ty.int .i64)):Nat×TV)::([]:List (Nat×TV))) (TB.arr (Ty.int .i64) true::([]:List TB))::LSh.mk (((5,TV.slf (0) (1)):Nat×TV)::([]:List (Nat×TV))) (TB.arr (Ty.int .i64) true::([]:List TB))::([]:List LSh)
def fitB (inner:List Int) (rows:List (List Int)) (i j:Nat):Bool:=(decide (j=0) || decide (el rows i (j-1)≤el rows i j)) && (decide (i=0) || !(decide (0≤rowF inner i+(j:Int)-rowF inner ((i:Int)-1)) && (decide (rowF inner i+(j:Int)-rowF inner ((i:Int)-1)<((rows.getD (i-1) []).length:Int)) && decide (el rows i j≤el rows (i-1) (rowF inner i+(j:Int)-rowF inner ((i:Int)-1)).toNat))))
def qug (inner:List Int) (rows:List (List Int)):Bool:=(List.range rows.length).all fun i=>(List.range (rows.getD i []).length).all fun j=>fitB inner rows i j
def qzw:Con:=mkC 91 [.d LI,.d LLI] [.bool] (fun (inner:List Int) (rows:List (List Int))=>[qad inner=true∧okL2 rows]) (fun (inner:List Int) (rows:List (List Int))=>(qug inner rows,()))
open List Int in
def qtb (x0:List Int) (x1:List (List Int)) (d2 d3:Int×Unit):Option (Lp (Int×Unit) (Lp (Int×Unit) (Bool×Unit))):=bif ilt d3.1 (↑(length (getD x1 (toNat d2.1) ([]:List Int))):Int) then gd (0≤d3.1∧d3.1<(↑(length (getD x1 (toNat d2.1) ([]:List Int))):Int)) (gd (ilt 0 d3.1=true→ilt 0 d3.1=true) (gd (ilt 0 d3.1=true→ilt 0 d3.1=true∧ilt 0 d3.1=true∧0≤wr .i64 (d3.1-1)∧wr .i64 (d3.1-1)<(↑(length (getD x1 (toNat d2.1) ([]:List Int))):Int)) (gd (ilt 0 d3.1=true→ilt 0 d3.1=true) (gd (ilt 0 d3.1=true→ilt 0 d3.1=true∧ilt 0 d3.1=true) (gd (ilt 0 d3.1=true→ilt 0 d3.1=true) (bif bif ilt 0 d3.1 then ilt (getD (getD x1 (toNat d2.1) ([]:List Int)) (toNat d3.1) 0) (getD (getD x1 (toNat d2.1) ([]:List Int)) (toNat (wr .i64 (d3.1-1))) 0) else false then some (Lp.out (Lp.out ((false,()):Bool×Unit))) else bif ieq d2.1 0 then some (Lp.go ((wr .i64 (d3.1+1),()):Int×Unit)) else gd (length x0≤1000) (gd (length x0≤1000) (gd (ile 0 (wr .i64 (wr .i64 (rowF x0 d2.1+d3.1)-rowF x0 (wr .i64 (d2.1-1))))=true→ile 0 (wr .i64 (wr .i64 (rowF x0 d2.1+d3.1)-rowF x0 (wr .i64 (d2.1-1))))=true) (gd (ile 0 (wr .i64 (wr .i64 (rowF x0 d2.1+d3.1)-rowF x0 (wr .i64 (d2.1-1))))=true→ile 0 (wr .i64 (wr .i64 (rowF x0 d2.1+d3.1)-rowF x0 (wr .i64 (d2.1-1))))=true∧ile 0 (wr .i64 (wr .i64 (rowF x0 d2.1+d3.1)-rowF x0 (wr .i64 (d2.1-1))))=true∧0≤wr .i64 (d2.1-1)∧wr .i64 (d2.1-1)<(↑(length x1):Int)) (gd (ile 0 (wr .i64 (wr .i64 (rowF x0 d2.1+d3.1)-rowF x0 (wr .i64 (d2.1-1))))=true→ile 0 (wr .i64 (wr .i64 (rowF x0 d2.1+d3.1)-rowF x0 (wr .i64 (d2.1-1))))=true) (gd (ile 0 (wr .i64 (wr .i64 (rowF x0 d2.1+d3.1)-rowF x0 (wr .i64 (d2.1-1))))=true→ile 0 (wr .i64 (wr .i64 (rowF x0 d2.1+d3.1)-rowF x0 (wr .i64 (d2.1-1))))=true) (gd (ile 0 (wr .i64 (wr .i64 (rowF x0 d2.1+d3.1)-rowF x0 (wr .i64 (d2.1-1))))=true→ile 0 (wr .i64 (wr .i64 (rowF x0 d2.1+d3.1)-rowF x0 (wr .i64 (d2.1-1))))=true∧ile 0 (wr .i64 (wr .i64 (rowF x0 d2.1+d3.1)-rowF x0 (wr .i64 (d2.1-1))))=true) (gd (ile 0 (wr .i64 (wr .i64 (rowF x0 d2.1+d3.1)-rowF x0 (wr .i64 (d2.1-1))))=true→ile 0 (wr .i64 (wr .i64 (rowF x0 d2.1+d3.1)-rowF x0 (wr .i64 (d2.1-1))))=true) (gd ((bif ile 0 (wr .i64 (wr .i64 (rowF x0 d2.1+d3.1)-rowF x0 (wr .i64 (d2.1-1)))) then ilt (wr .i64 (wr .i64 (rowF x0 d2.1+d3.1)-rowF x0 (wr .i64 (d2.1-1)))) (↑(length (getD x1 (toNat (wr .i64 (d2.1-1))) ([]:List Int))):Int) else false)=true→(bif ile 0 (wr .i64 (wr .i64 (rowF x0 d2.1+d3.1)-rowF x0 (wr .i64 (d2.1-1)))) then ilt (wr .i64 (wr .i64 (rowF x0 d2.1+d3.1)-rowF x0 (wr .i64 (d2.1-1)))) (↑(length (getD x1 (toNat (wr .i64 (d2.1-1))) ([]:List Int))):Int) else false)=true) (gd ((bif ile 0 (wr .i64 (wr .i64 (rowF x0 d2.1+d3.1)-rowF x0 (wr .i64 (d2.1-1)))) then ilt (wr .i64 (wr .i64 (rowF x0 d2.1+d3.1)-rowF x0 (wr .i64 (d2.1-1)))) (↑(length (getD x1 (toNat (wr .i64 (d2.1-1))) ([]:List Int))):Int) else false)=true→(bif ile 0 (wr .i64 (wr .i64 (rowF x0 d2.1+d3.1)-rowF x0 (wr .i64 (d2.1-1)))) then ilt (wr .i64 (wr .i64 (rowF x0 d2.1+d3.1)-rowF x0 (wr .i64 (d2.1-1)))) (↑(length (getD x1 (toNat (wr .i64 (d2.1-1))) ([]:List Int))):Int) else false)=true∧(bif ile 0 (wr .i64 (wr .i64 (rowF x0 d2.1+d3.1)-rowF x0 (wr .i64 (d2.1-1)))) then ilt (wr .i64 (wr .i64 (rowF x0 d2.1+d3.1)-rowF x0 (wr .i64 (d2.1-1)))) (↑(length (getD x1 (toNat (wr .i64 (d2.1-1))) ([]:List Int))):Int) else false)=true∧0≤wr .i64 (d2.1-1)∧wr .i64 (d2.1-1)<(↑(length x1):Int)) (gd ((bif ile 0 (wr .i64 (wr .i64 (rowF x0 d2.1+d3.1)-rowF x0 (wr .i64 (d2.1-1)))) then ilt (wr .i64 (wr .i64 (rowF x0 d2.1+d3.1)-rowF x0 (wr .i64 (d2.1-1)))) (↑(length (getD x1 (toNat (wr .i64 (d2.1-1))) ([]:List Int))):Int) else false)=true→(bif ile 0 (wr .i64 (wr .i64 (rowF x0 d2.1+d3.1)-rowF x0 (wr .i64 (d2.1-1)))) then ilt (wr .i64 (wr .i64 (rowF x0 d2.1+d3.1)-rowF x0 (wr .i64 (d2.1-1)))) (↑(length (getD x1 (toNat (wr .i64 (d2.1-1))) ([]:List Int))):Int) else false)=true) (gd ((bif ile 0 (wr .i64 (wr .i64 (rowF x0 d2.1+d3.1)-rowF x0 (wr .i64 (d2.1-1)))) then ilt (wr .i64 (wr .i64 (rowF x0 d2.1+d3.1)-rowF x0 (wr .i64 (d2.1-1)))) (↑(length (getD x1 (toNat (wr .i64 (d2.1-1))) ([]:List Int))):Int) else false)=true→(bif ile 0 (wr .i64 (wr .i64 (rowF x0 d2.1+d3.1)-rowF x0 (wr .i64 (d2.1-1)))) then ilt (wr .i64 (wr .i64 (rowF x0 d2.1+d3.1)-rowF x0 (wr .i64 (d2.1-1)))) (↑(length (getD x1 (toNat (wr .i64 (d2.1-1))) ([]:List Int))):Int) else false)=true∧(bif ile 0 (wr .i64 (wr .i64 (rowF x0 d2.1+d3.1)-rowF x0 (wr .i64 (d2.1-1)))) then ilt (wr .i64 (wr .i64 (rowF x0 d2.1+d3.1)-rowF x0 (wr .i64 (d2.1-1)))) (↑(length (getD x1 (toNat (wr .i64 (d2.1-1))) ([]:List Int))):Int) else false)=true∧0≤wr .i64 (wr .i64 (rowF x0 d2.1+d3.1)-rowF x0 (wr .i64 (d2.1-1)))∧wr .i64 (wr .i64 (rowF x0 d2.1+d3.1)-rowF x0 (wr .i64 (d2.1-1)))<(↑(length (getD x1 (toNat (wr .i64 (d2.1-1))) ([]:List Int))):Int)) (gd ((bif ile 0 (wr .i64 (wr .i64 (rowF x0 d2.1+d3.1)-rowF x0 (wr .i64 (d2.1-1)))) then ilt (wr .i64 (wr .i64 (rowF x0 d2.1+d3.1)-rowF x0 (wr .i64 (d2.1-1)))) (↑(length (getD x1 (toNat (wr .i64 (d2.1-1))) ([]:List Int))):Int) else false)=true→(bif ile 0 (wr .i64 (wr .i64 (rowF x0 d2.1+d3.1)-rowF x0 (wr .i64 (d2.1-1)))) then ilt (wr .i64 (wr .i64 (rowF x0 d2.1+d3.1)-rowF x0 (wr .i64 (d2.1-1)))) (↑(length (getD x1 (toNat (wr .i64 (d2.1-1))) ([]:List Int))):Int) else false)=true) (gd ((bif ile 0 (wr .i64 (wr .i64 (rowF x0 d2.1+d3.1)-rowF x0 (wr .i64 (d2.1-1)))) then ilt (wr .i64 (wr .i64 (rowF x0 d2.1+d3.1)-rowF x0 (wr .i64 (d2.1-1)))) (↑(length (getD x1 (toNat (wr .i64 (d2.1-1))) ([]:List Int))):Int) else false)=true→(bif ile 0 (wr .i64 (wr .i64 (rowF x0 d2.1+d3.1)-rowF x0 (wr .i64 (d2.1-1)))) then ilt (wr .i64 (wr .i64 (rowF x0 d2.1+d3.1)-rowF x0 (wr .i64 (d2.1-1)))) (↑(length (getD x1 (toNat (wr .i64 (d2.1-1))) ([]:List Int))):Int) else false)=true∧(bif ile 0 (wr .i64 (wr .i64 (rowF x0 d2.1+d3.1)-rowF x0 (wr .i64 (d2.1-1)))) then ilt (wr .i64 (wr .i64 (rowF x0 d2.1+d3.1)-rowF x0 (wr .i64 (d2.1-1)))) (↑(length (getD x1 (toNat (wr .i64 (d2.1-1))) ([]:List Int))):Int) else false)=true) (gd ((bif ile 0 (wr .i64 (wr .i64 (rowF x0 d2.1+d3.1)-rowF x0 (wr .i64 (d2.1-1)))) then ilt (wr .i64 (wr .i64 (rowF x0 d2.1+d3.1)-rowF x0 (wr .i64 (d2.1-1)))) (↑(length (getD x1 (toNat (wr .i64 (d2.1-1))) ([]:List Int))):Int) else false)=true→(bif ile 0 (wr .i64 (wr .i64 (rowF x0 d2.1+d3.1)-rowF x0 (wr .i64 (d2.1-1)))) then ilt (wr .i64 (wr .i64 (rowF x0 d2.1+d3.1)-rowF x0 (wr .i64 (d2.1-1)))) (↑(length (getD x1 (toNat (wr .i64 (d2.1-1))) ([]:List Int))):Int) else false)=true) (bif bif bif ile 0 (wr .i64 (wr .i64 (rowF x0 d2.1+d3.1)-rowF x0 (wr .i64 (d2.1-1)))) then ilt (wr .i64 (wr .i64 (rowF x0 d2.1+d3.1)-rowF x0 (wr .i64 (d2.1-1)))) (↑(length (getD x1 (toNat (wr .i64 (d2.1-1))) ([]:List Int))):Int) else false then ile (getD (getD x1 (toNat d2.1) ([]:List Int)) (toNat d3.1) 0) (getD (getD x1 (toNat (wr .i64 (d2.1-1))) ([]:List Int)) (toNat (wr .i64 (wr .i64 (rowF x0 d2.1+d3.1)-rowF x0 (wr .i64 (d2.1-1))))) 0) else false then some (Lp.out (Lp.out ((false,()):Bool×Unit))) else some (Lp.go ((wr .i64 (d3.1+1),()):Int×Unit))))))))))))))))))))))) else some (Lp.out (Lp.go ((wr .i64 (d2.1+1),()):Int×Unit)))
def g91 (x0:List Int) (x1:List (List Int)):Option (Bool×Unit):=qat (fun (d2:Int×Unit)=>bif ilt d2.1 (↑(List.length x1):Int) then gd (0≤d2.1∧d2.1<(↑(List.length x1):Int)) (qat (qtb x0 x1 d2) ((0,()):Int×Unit)) else some (Lp.out ((true,()):Bool×Unit))) ((0,()):Int×Unit)
def q8o:List LSh:=LSh.mk (((12,TV.v (Ty.int .i64)):Nat×TV)::([]:List (Nat×TV))) ([]:List TB)::LSh.mk (((19,TV.v (Ty.int .i64)):Nat×TV)::([]:List (Nat×TV))) ([]:List TB)::([]:List LSh)
def entB (rows:List (List Int)):Bool:=rows.all fun r=>r.all fun x=>decide (1≤x) && decide (x≤8)
def skB (s:SkD):Bool:=qad s.1 && decide (s.1.length≤s.2.1.length) && qad (qbd (outF s.1 s.2.1 s.2.1.length)) && entB s.2.1 && qug s.1 s.2.1
def q0w:Con:=mkC 46 [.d SkT] [.bool] (fun (s:SkD)=>[small s.1∧okL2 s.2.1]) (fun (s:SkD)=>(skB s,()))
def qve (x0:List Int×List (List Int)×Unit) (d1 d2:Int×List Int×List (List Int)×Unit):Option (Lp (Int×List Int×List (List Int)×Unit) (Lp (Int×List Int×List (List Int)×Unit) (Bool×Unit))):=bif ilt d2.1 (↑(List.length (List.getD x0.2.1 (Int.toNat d1.1) ([]:List Int))):Int) then gd (0≤d2.1∧d2.1<(↑(List.length (List.getD x0.2.1 (Int.toNat d1.1) ([]:List Int))):Int)) (gd ((!ilt (List.getD (List.getD x0.2.1 (Int.toNat d1.1) ([]:List Int)) (Int.toNat d2.1) 0) 1)=true→(!ilt (List.getD (List.getD x0.2.1 (Int.toNat d1.1) ([]:List Int)) (Int.toNat d2.1) 0) 1)=true) (gd (ilt (List.getD (List.getD x0.2.1 (Int.toNat d1.1) ([]:List Int)) (Int.toNat d2.1) 0) 1=false→(!ilt (List.getD (List.getD x0.2.1 (Int.toNat d1.1) ([]:List Int)) (Int.toNat d2.1) 0) 1)=true) (bif bif ilt (List.getD (List.getD x0.2.1 (Int.toNat d1.1) ([]:List Int)) (Int.toNat d2.1) 0) 1 then true else ilt 8 (List.getD (List.getD x0.2.1 (Int.toNat d1.1) ([]:List Int)) (Int.toNat d2.1) 0) then some (Lp.out (Lp.out ((false,()):Bool×Unit))) else some (Lp.go ((wr .i64 (d2.1+1),d2.2.1,d2.2.2.1,()):Int×List Int×List (List Int)×Unit))))) else some (Lp.out (Lp.go ((wr .i64 (d1.1+1),d2.2.1,d2.2.2.1,()):Int×List Int×List (List Int)×Unit)))
open List Int in
def g46 (x0:List Int×List (List Int)×Unit):Option (Bool×Unit):=gd (small x0.1) (gd ((!!qad x0.1)=true→(!!qad x0.1)=true) (gd ((!!qad x0.1)=true→(!!qad x0.1)=true) (gd ((!!qad x0.1)=true→(!!qad x0.1)=true) (gd ((!!qad x0.1)=true→(!!qad x0.1)=true) (gd ((!!qad x0.1)=true→(!!qad x0.1)=true∧(!!qad x0.1)=true) (gd ((!qad x0.1)=false→(!!qad x0.1)=true) (gd ((!bif !qad x0.1 then true else ilt (↑(length x0.2.1):Int) (↑(length x0.1):Int))=true→(!bif !qad x0.1 then true else ilt (↑(length x0.2.1):Int) (↑(length x0.1):Int))=true) (gd ((!bif !qad x0.1 then true else ilt (↑(length x0.2.1):Int) (↑(length x0.1):Int))=true→(!bif !qad x0.1 then true else ilt (↑(length x0.2.1):Int) (↑(length x0.1):Int))=true) (gd ((!bif !qad x0.1 then true else ilt (↑(length x0.2.1):Int) (↑(length x0.1):Int))=true→(!bif !qad x0.1 then true else ilt (↑(length x0.2.1):Int) (↑(length x0.1):Int))=true∧(!bif !qad x0.1 then true else ilt (↑(length x0.2.1):Int) (↑(length x0.1):Int))=true∧qad x0.1=true∧okL2 x0.2.1) (gd ((!bif !qad x0.1 then true else ilt (↑(length x0.2.1):Int) (↑(length x0.1):Int))=true→(!bif !qad x0.1 then true else ilt (↑(length x0.2.1):Int) (↑(length x0.1):Int))=true∧small (qbd (outF x0.1 x0.2.1 (length x0.2.1)))) (gd ((!bif !qad x0.1 then true else ilt (↑(length x0.2.1):Int) (↑(length x0.1):Int))=true→(!bif !qad x0.1 then true else ilt (↑(length x0.2.1):Int) (↑(length x0.1):Int))=true) (gd ((bif !qad x0.1 then true else ilt (↑(length x0.2.1):Int) (↑(length x0.1):Int))=false→(!bif !qad x0.1 then true else ilt (↑(length x0.2.1):Int) (↑(length x0.1):Int))=true) (bif bif bif !qad x0.1 then true else ilt (↑(length x0.2.1):Int) (↑(length x0.1):Int) then true else !qad (qbd (outF x0.1 x0.2.1 (length x0.2.1))) then some ((false,()):Bool×Unit) else qat (fun (d1:Int×List Int×List (List Int)×Unit)=>bif ilt d1.1 (↑(length x0.2.1):Int) then gd (0≤d1.1∧d1.1<(↑(length x0.2.1):Int)) (qat (qve x0 d1) ((0,d1.2.1,d1.2.2.1,()):Int×List Int×List (List Int)×Unit)) else gd (qad d1.2.1=true∧okL2 d1.2.2.1) (some (Lp.out ((qug d1.2.1 d1.2.2.1,()):Bool×Unit)))) ((0,x0.1,x0.2.1,()):Int×List Int×List (List Int)×Unit))))))))))))))
def q7j:List LSh:=LSh.mk (((1,TV.ref (0) 1 0 0):Nat×TV)::((32,TV.v (Ty.int .i64)):Nat×TV)::([]:List (Nat×TV))) (TB.cells (TV.v (Ty.slice (Ty.int .i64))::TV.v (Ty.slice (Ty.slice (Ty.int .i64)))::([]:List TV))::([]:List TB))::LSh.mk (((1,TV.ref (0) 1 0 0):Nat×TV)::((38,TV.v (Ty.int .i64)):Nat×TV)::([]:List (Nat×TV))) (TB.cells (TV.v (Ty.slice (Ty.int .i64))::TV.v (Ty.slice (Ty.slice (Ty.int .i64)))::([]:List TV))::([]:List TB))::([]:List LSh)
def qd4 (rows:List (List Int)):Bool:=!rows.any mtB && skB (([],rows,()):SkD)
def q0c:Con:=mkC 34 [.d LLI] [.bool] (fun (rows:List (List Int))=>[okL2 rows]) (fun (rows:List (List Int))=>(qd4 rows,()))
def g34 (x0:List (List Int)):Option (Bool×Unit):=qat (fun (d1:Int×Unit)=>bif ilt d1.1 (↑(List.length x0):Int) then gd (0≤d1.1∧d1.1<(↑(List.length x0):Int)) (bif ieq (↑(List.length (List.getD x0 (Int.toNat d1.1) ([]:List Int))):Int) 0 then some (Lp.out ((false,()):Bool×Unit)) else some (Lp.go ((wr .i64 (d1.1+1),()):Int×Unit))) else gd (small ([]:List Int)∧okL2 x0) (some (Lp.out ((skB ((([]:List Int),x0,()):List Int×List (List Int)×Unit),()):Bool×Unit)))) ((0,()):Int×Unit)
def q7q:List LSh:=LSh.mk (((7,TV.v (Ty.int .i64)):Nat×TV)::([]:List (Nat×TV))) ([]:List TB)::([]:List LSh)
def cntF (rows:List (List Int)) (k:Int):Int:=((rows.map fun r=>r.countP fun x=>decide (x=k)).sum:Nat)
def qz1:Con:=mkC 36 [.d LLI,.d I64] [I64] (fun (rows:List (List Int)) (k:Int)=>[okL2 rows]) (fun (rows:List (List Int)) (k:Int)=>(cntF rows k,()))
def q1c (x0:List (List Int)) (x1:Int) (d2 d3:Int×Int×Unit):Option (Lp (Int×Int×Unit) (Lp (Int×Int×Unit) (Int×Unit))):=bif ilt d3.2.1 (↑(List.length (List.getD x0 (Int.toNat d2.2.1) ([]:List Int))):Int) then gd (0≤d3.2.1∧d3.2.1<(↑(List.length (List.getD x0 (Int.toNat d2.2.1) ([]:List Int))):Int)) (bif ieq (List.getD (List.getD x0 (Int.toNat d2.2.1) ([]:List Int)) (Int.toNat d3.2.1) 0) x1 then some (Lp.go ((wr .i64 (d3.1+1),wr .i64 (d3.2.1+1),()):Int×Int×Unit)) else some (Lp.go ((d3.1,wr .i64 (d3.2.1+1),()):Int×Int×Unit))) else some (Lp.out (Lp.go ((d3.1,wr .i64 (d2.2.1+1),()):Int×Int×Unit)))
def g36 (x0:List (List Int)) (x1:Int):Option (Int×Unit):=qat (fun (d2:Int×Int×Unit)=>bif ilt d2.2.1 (↑(List.length x0):Int) then gd (0≤d2.2.1∧d2.2.1<(↑(List.length x0):Int)) (qat (q1c x0 x1 d2) ((d2.1,0,()):Int×Int×Unit)) else some (Lp.out ((d2.1,()):Int×Unit))) ((0,0,()):Int×Int×Unit)
def q8c:List LSh:=LSh.mk (((5,TV.v (Ty.int .i64)):Nat×TV)::((12,TV.v (Ty.int .i64)):Nat×TV)::([]:List (Nat×TV))) ([]:List TB)::LSh.mk (((5,TV.v (Ty.int .i64)):Nat×TV)::((18,TV.v (Ty.int .i64)):Nat×TV)::([]:List (Nat×TV))) ([]:List TB)::([]:List LSh)
set_option maxRecDepth 100000
theorem qha {α:Type} {l:List α} {i:Nat} (h:i<l.length) (d:α):l.take (i+1)=l.take i++[l.getD i d]:=by
 rw [List.take_succ_eq_append_getElem h,waa,wab h];rfl
theorem qvy {α:Type} {l:List α} {i:Nat} (h:i<l.length) (d:α):l.drop i=l.getD i d::l.drop (i+1):=by
 rw [List.drop_eq_getElem_cons h,waa,wab h];rfl
theorem qfm {α:Type} {l:List α} {i:Nat} (h:i<l.length) {d:α}:l.getD i d∈l:=by
 rw [waa,wab h];exact wav _
theorem qv5 {t:List (List Int)}:(tabF t).length≤12:=by simp [tabF];omega
theorem zb4:qs5.goal Try.prog (spOf [q0v]) q7e [] lm30:=by
 have e:(∀ (t:List (List Int)),small t→g32 t=some (tabF t,()))=qs5.goal Try.prog (spOf [q0v]) q7e [] lm30:=by kernel_rfl
 rw [← e];intro t hs;unfold small at hs;unfold g32;rw [qab rfl];refine qd0 (fun (i:Nat)=>(((i:Int),tabF (t.take i),()):Int×List (List Int)×Unit)) t.length _ (fun i hi=>?_) ?_
 ·have hl:=qv5 (t:=t.take i);have hw:wr .i64 ((i:Int)+1)=((i+1:Nat):Int):=qam (by omega)
  simp only [qak.2 (show (i:Int)<(t.length:Int) by omega),wbs,wad,wbl,hw]
  rw [qab ⟨by omega,by omega⟩]
  by_cases h12:i<12
  ·rw [qfs (qak.2 (by omega)),qab (wae _),qab (by omega),qab (by simp)]
   have:tabF (t.take (i+1))=tabF (t.take i)++[List.take 12 (t.getD i [])]:=by
    unfold tabF;have a:(t.take i++[t.getD i []]).length≤12:=by simp;omega
    have b:(t.take i).length≤12:=by simp;omega
    rw [qha hi [],wal a,wal b,wbx];rfl
   rw [this]
  ·rw [qf6 (qag.2 (by omega)),qac]
   have:tabF (t.take (i+1))=tabF (t.take i):=by
    unfold tabF;rw [List.take_take,List.take_take,Nat.min_eq_left (by omega),Nat.min_eq_left (by omega)]
   rw [this]
 ·simp only [qag.2 (waw _),wbr,wbj,wcb,wbl];rw [qab (wae _)]
theorem ok32:qs5.Ok Try.prog:=Con.of_goal qb4 (okC ok20 okN) qs5 zb4
theorem zaz:qma.goal Try.prog (spOf []) q32 [] lm30:=by
 have e:(∀ (l:List Int) (i:Int),l.length≤1000→g93p l i=some (rowF l i,()))=qma.goal Try.prog (spOf []) q32 [] lm30:=by kernel_rfl
 rw [← e];intro l i hl;unfold g93p rowF
 by_cases h0:i<0
 ·simp [qak.2 h0,qac,h0]
 ·have h1:ilt i 0=false:=qag.2 (by omega)
  by_cases h2:(l.length:Int)≤i
  ·simp only [h1,qd9.2 h2,qac,if_neg h0,wbh,wbi,imp_self,wbs,wbr,wbe,wbo,wbq,wbp,and_self];rw [waa,wac (by omega)];rfl
  ·simp only [h1,qdn.2 (show i<(l.length:Int) by omega),qac,if_neg h0,wbh,wbi,imp_self,wbs,wbr,wbe,wbo,wbq,wbp,wbb,and_self]
   rw [qab ⟨by omega,by omega⟩]
theorem zcz:qma.Ok Try.prog:=Con.of_goal qb4 okN qma zaz
theorem qqn:∀ {l:List Int},qbd (l++[0])=qbd l
 | []=>rfl
 | x::l=>by rw [wbt,qbd,qbd,qqn]
theorem quc:∀ {l:List Int} {x:Int},x≠0→qbd (l++[x])=l++[x]
 | [],x,h=>by
  show (if qbd []=[]∧x=0 then [] else x::qbd [])=[x]
  rw [if_neg (fun h'=>h h'.2)];rfl
 | y::l,x,h=>by
  rw [wbt,qbd,quc h,if_neg (fun h'=>by have:=h'.1;simp at this)]
theorem q92 {l:List Int} (h:0<l.length):∃ l' x,l=l'++[x]:=by
 rcases List.eq_nil_or_concat l with rfl | ⟨l',x,rfl⟩
 ·simp at h
 ·exact ⟨l',x,List.concat_eq_append⟩
theorem zbm:q0q.goal Try.prog (spOf [qma]) q79 [1041] lm30:=by
 have e:(∀ (inner:List Int) (rows:List (List Int)),(qad inner=true∧okL2 rows)→g90 inner rows=some (qbd (outF inner rows rows.length),()))=q0q.goal Try.prog (spOf [qma]) q79 [1041] lm30:=by kernel_rfl
 rw [← e];rintro inner rows ⟨hs,h1,h2⟩;have hin:=(qal.1 hs).1;unfold g90;rw [qab rfl];refine qd0 (fun (i:Nat)=>(((i:Int),outF inner rows i,()):Int×List Int×Unit)) rows.length _ (fun i hi=>?_) ?_
 ·have hl:(outF inner rows i).length=i:=by simp [outF]
  have h3:=h2 _ (qfm hi (d:=[]));have hr:=qaz hs i;have hw:wr .i64 ((i:Int)+1)=((i+1:Nat):Int):=qam (by omega)
  have hw2:wr .i64 (rowF inner (i:Int)+((rows.getD i []).length:Int))=rowF inner (i:Int)+((rows.getD i []).length:Int):=qam (by omega)
  have hu:outF inner rows (i+1)=outF inner rows i++[rowF inner (i:Int)+((rows.getD i []).length:Int)]:=by
   unfold outF;rw [List.range_succ,wbx];rfl
  simp only [qak.2 (show (i:Int)<(rows.length:Int) by omega),wbs,wad,wbl,hw,hw2,hu]
  rw [qab ⟨by omega,by omega⟩,qab (by omega),qab (wae _),qab (by omega),qab (by simp)]
 ·simp only [qag.2 (waw _),wbr];rw [qac];have hl:(outF inner rows rows.length).length≤1000:=by simp [outF];omega
  refine qdx (fun s:List Int×Unit=>s.1.length≤1000) (fun s:List Int×Unit=>s.1.length) (fun s:List Int×Unit=>Lp.out (qbd s.1,())) ?_ _ hl
  rintro ⟨l,⟨⟩⟩ hl;simp only at hl ⊢
  by_cases h0:0<l.length
  ·obtain ⟨l',x,rfl⟩:=q92 h0;have hlen:(l'++[x]).length=l'.length+1:=by simp
   rw [hlen] at hl;have hw:wr .i64 (((l'.length+1:Nat):Int)-1)=(l'.length:Int):=(qam (by omega)).trans (by omega)
   have hx:(l'++[x]).getD (0+l'.length) 0=x:=by
    rw [wbj,waa,wah (wae _),Nat.sub_self];rfl
   have ht:List.take l'.length (l'++[x])=l':=by rw [List.take_append_of_le_length (wae _),wbl]
   have f1:0≤(l'.length:Int):=Int.natCast_nonneg _;have f2:(l'.length:Int)<((l'.length+1:Nat):Int):=by omega
   have f3:0+l'.length<l'.length+1:=by omega
   have f4:(l'.length:Int)≤((l'.length+1:Nat):Int):=by omega
   have hx':(l'++[x]).getD l'.length 0=x:=by rw [wbj] at hx;exact hx
   have f3':l'.length<l'.length+1:=by omega
   have f5:ilt (0:Int) ((l'.length+1:Nat):Int)=true:=qak.2 (by omega)
   have ht2:List.take (l'.length+1) (l'++[x])=l'++[x]:=wal (by simp)
   by_cases hz:x=0
   ·refine .inr ⟨(l',()),?_,?_,?_,?_⟩
    ·subst hz;simp only [hlen,hw,wad,hx,ht,f5,wbs,imp_self,wbp,and_self,show ieq 0 0=true from rfl,f1,f2,f3,f4,qac,wbi,wbh,wbe,wbb,wbo,wbq]
    ·simp only;omega
    ·simp only [hlen];omega
    ·subst hz;simp only [qqn]
   ·refine .inl ?_;simp only [hlen,hw,wad,hx,hx',f3',f5,wbs,imp_self,wbp,and_self,qa5.2 hz,wbr,quc hz,f1,f2,f3,f4,qac,wbi,wbh,wbe,wbb,wbo,wbq,wcb,wbj,ht2,wae]
  ·have:l=[]:=wb5 (by omega)
   subst this;refine .inl ?_;simp [qac,ilt,qbd]
theorem ok90:q0q.Ok Try.prog:=Con.of_goal qb4 (okC zcz okN) q0q zbm
theorem qxf {p:Nat→Bool} {i n:Nat} (h:i<n):(List.range' i (n-i)).all p=(p i && (List.range' (i+1) (n-(i+1))).all p):=by
 rw [show n-i=(n-(i+1))+1 by omega,List.range'_succ,List.all_cons]
theorem q07 {p:Nat→Bool} {n:Nat}:(List.range' n (n-n)).all p=true:=by rw [Nat.sub_self];rfl
theorem zcj {inner:List Int} {rows:List (List Int)} (hs:qad inner=true) (hr:okL2 rows) {i j:Nat} (hi:i<rows.length) (hjl:j<(rows.getD i []).length) :
  qtb inner rows (((i:Int),()):Int×Unit) (((j:Int),()):Int×Unit)=bif fitB inner rows i j then some (.go (((j+1:Nat):Int),())) else some (.out (.out (false,()))):=by
 have n1:inner.length≤1000:=by have:=(qal.1 hs).1;omega
 have h3:=hr.2 _ (qfm hi (d:=[]));have hi10:=hr.1;have hm:∀ x∈inner,0≤x∧x≤8:=fun x hx=>by have:=qby hs x hx;omega
 have hr0:=qw2 hm (i:Int);have hr1:=qw2 hm ((i:Int)-1);have hlt:=qak.2 (show (j:Int)<((rows.getD i []).length:Int) by omega)
 have w1:wr .i64 ((j:Int)+1)=((j+1:Nat):Int):=qam (by omega)
 have w2:wr .i64 ((j:Int)-1)=(j:Int)-1:=qam (by omega)
 have w3:wr .i64 ((i:Int)-1)=(i:Int)-1:=qam (by omega)
 have w4:wr .i64 (rowF inner (i:Int)+(j:Int))=rowF inner (i:Int)+(j:Int):=qam (by omega)
 have w5:wr .i64 (rowF inner (i:Int)+(j:Int)-rowF inner ((i:Int)-1))=rowF inner (i:Int)+(j:Int)-rowF inner ((i:Int)-1):=qam (by omega)
 have t2:((j:Int)-1).toNat=j-1:=by omega
 have t3:((i:Int)-1).toNat=i-1:=by omega
 have e0:∀ j,(rows.getD i []).getD j 0=el rows i j:=fun _=>rfl
 have e1:∀ j,(rows.getD (i-1) []).getD j 0=el rows (i-1) j:=fun _=>rfl
 have hF:fitB inner rows i j=((!(ilt 0 (j:Int) && ilt (el rows i j) (el rows i (j-1)))) && (ieq (i:Int) 0 || !(ile 0 (rowF inner (i:Int)+(j:Int)-rowF inner ((i:Int)-1)) && (ilt (rowF inner (i:Int)+(j:Int)-rowF inner ((i:Int)-1)) ((rows.getD (i-1) []).length:Int) && ile (el rows i j) (el rows (i-1) (rowF inner (i:Int)+(j:Int)-rowF inner ((i:Int)-1)).toNat))))):=by
  unfold fitB;have f1:(decide (j=0) || decide (el rows i (j-1)≤el rows i j))=!(ilt 0 (j:Int) && ilt (el rows i j) (el rows i (j-1))):=by
   by_cases h:j=0
   ·subst h;rfl
   ·rw [qak.2 (show (0:Int)<(j:Int) by omega),decide_eq_false h,Bool.false_or,wb1]
    unfold ilt
    by_cases h2:el rows i (j-1)≤el rows i j
    ·rw [decide_eq_true h2,decide_eq_false (p:=el rows i j<_) (Int.not_lt.2 h2)];rfl
    ·rw [decide_eq_false h2,decide_eq_true (p:=el rows i j<_) (Int.not_le.1 h2)];rfl
  have f2:decide (i=0)=ieq (i:Int) 0:=by
   by_cases h:i=0
   ·subst h;rfl
   ·rw [decide_eq_false h,qa5.2 (by omega)]
  rw [f1,f2];rfl
 have qc:ilt 0 (j:Int)=true→(1≤(j:Int)∧0≤(j:Int)-1)∧(j:Int)-1<((rows.getD i []).length:Int):=fun h=>by rw [qak] at h;omega
 have qe:ieq (i:Int) 0=false→(1≤(i:Int)∧0≤(i:Int)-1)∧(i:Int)-1<(rows.length:Int):=fun h=>by rw [qa5] at h;omega
 rw [hF];unfold qtb;simp only [wad,hlt,wbs,w1,w2,w3,w4,w5,t2,t3,e0,e1];rw [qab ⟨by omega,by omega⟩]
 generalize rowF inner (i:Int)+(j:Int)-rowF inner ((i:Int)-1)=cc at *;have qf:ile 0 cc=true→0≤cc:=fun h=>qd9.1 h
 have qg:ilt cc ((rows.getD (i-1) []).length:Int)=true→cc<((rows.getD (i-1) []).length:Int):=fun h=>qak.1 h
 generalize (rows.getD (i-1) []).length=L at *;generalize (rows.getD i []).length=L0 at *;generalize ilt 0 (j:Int)=c at *;generalize ilt (el rows i j) (el rows i (j-1))=d at *;generalize ieq (i:Int) 0=e at *;generalize ile 0 cc=f at *;generalize ilt cc (L:Int)=g at *;generalize ile (el rows i j) (el rows (i-1) cc.toNat)=h at *
 cases c with
 | false=>cases e with
  | true=>cases d<;>cases f<;>cases g<;>cases h<;>simp [qac,n1]
  | false =>
   obtain ⟨⟨q1,q2⟩,q3⟩:=qe rfl;cases d<;>cases f<;>cases g<;>cases h<;>simp [qac,n1,q1,q2,q3,qf,qg]
 | true =>
  obtain ⟨⟨r1,r2⟩,r3⟩:=qc rfl
  cases e with
  | true=>cases d<;>cases f<;>cases g<;>cases h<;>simp [qac,n1,r1,r2,r3]
  | false =>
   obtain ⟨⟨q1,q2⟩,q3⟩:=qe rfl;cases d<;>cases f<;>cases g<;>cases h<;>simp [qac,n1,q1,q2,q3,qf,qg,r1,r2,r3]
theorem zds {inner:List Int} {rows:List (List Int)} (hs:qad inner=true) (hr:okL2 rows) {i:Nat} (hi:i<rows.length):∀ (d j:Nat),j+d=(rows.getD i []).length →
  qat (qtb inner rows (((i:Int),()):Int×Unit)) (((j:Int),()):Int×Unit)=some (bif (List.range' j ((rows.getD i []).length-j)).all (fitB inner rows i) then .go (((i+1:Nat):Int),()) else .out (false,())):=by
 have hi10:=hr.1;intro d
 induction d with
 | zero =>
  intro j hj;obtain rfl:j=(rows.getD i []).length:=by omega
  refine qa8 ?_;unfold qtb;simp only [wad,qag.2 (waw _),wbr,q07,wbs];rw [qam (by omega)]
  rfl
 | succ d ih =>
  intro j hj;have hjl:j<(rows.getD i []).length:=by omega
  rw [qxf hjl];have hst:=zcj hs hr hi hjl
  cases hf:fitB inner rows i j with
  | true =>
   rw [hf] at hst;rw [wb1];exact (qb9 hst).trans (ih (j+1) (by omega))
  | false =>
   rw [hf] at hst;rw [wb3];exact qa8 hst
theorem zc0:qzw.goal Try.prog (spOf [qma]) q8o [] lm30:=by
 have e:(∀ (inner:List Int) (rows:List (List Int)),(qad inner=true∧okL2 rows)→g91 inner rows=some (qug inner rows,()))=qzw.goal Try.prog (spOf [qma]) q8o [] lm30:=by kernel_rfl
 rw [← e];rintro inner rows ⟨hs,hr⟩;unfold g91;refine Eq.trans (qdx (fun s:Int×Unit=>∃ i:Nat,s=((i:Int),())∧i≤rows.length) (fun s:Int×Unit=>rows.length-s.1.toNat) (fun s:Int×Unit=>((List.range' s.1.toNat (rows.length-s.1.toNat)).all fun i=>(List.range (rows.getD i []).length).all fun j=>fitB inner rows i j,())) ?_ _ ⟨0,rfl,Nat.zero_le _⟩) ?_
 ·rintro s ⟨i,rfl,hi⟩
  by_cases h:i<rows.length
  ·have hrow:=zds hs hr h (rows.getD i []).length 0 (by omega)
   simp only [wad,qak.2 (show (i:Int)<(rows.length:Int) by omega),wbs,qxf h]
   rw [qab ⟨by omega,by omega⟩]
   rw [Nat.sub_zero,← List.range_eq_range'] at hrow
   cases hf:(List.range (rows.getD i []).length).all (fitB inner rows i) with
   | true =>
    rw [hf] at hrow;refine .inr ⟨_,hrow,⟨i+1,rfl,by omega⟩,?_,?_⟩
    ·simp only [wad];omega
    ·simp only [wad,wb1]
   | false =>
    rw [hf] at hrow;exact .inl (by rw [wb3];exact hrow)
  ·obtain rfl:i=rows.length:=by omega
   refine .inl ?_;simp only [wad,qag.2 (waw _),wbr,q07]
 ·show some (_,())=_;unfold qug;rw [List.range_eq_range'];rfl
theorem ok91:qzw.Ok Try.prog:=Con.of_goal qb4 (okC zcz okN) qzw zc0
abbrev D46:=Int×List Int×List (List Int)×Unit
def entX (x:Int):Bool:=decide (1≤x) && decide (x≤8)
theorem zdi {inner:List Int} {rows:List (List Int)} (hr:okL2 rows) {i:Nat} (hi:i<rows.length):∀ (d j:Nat),j+d=(rows.getD i []).length →
  qat (qve ((inner,rows,()):SkD) (((i:Int),inner,rows,()):D46)) (((j:Int),inner,rows,()):D46)=some (bif ((rows.getD i []).drop j).all entX then .go ((((i+1:Nat):Int),inner,rows,()):D46) else .out (false,())):=by
 have hi10:=hr.1;have h3:=hr.2 _ (qfm hi (d:=[]));intro d
 induction d with
 | zero =>
  intro j hj;obtain rfl:j=(rows.getD i []).length:=by omega
  refine qa8 ?_;unfold qve;simp only [wad,qag.2 (waw _),wbr,List.drop_length,List.all_nil,wbs];rw [qam (by omega)]
  rfl
 | succ d ih =>
  intro j hj;have hjl:j<(rows.getD i []).length:=by omega
  rw [qvy hjl (0:Int),List.all_cons];have hst:qve ((inner,rows,()):SkD) (((i:Int),inner,rows,()):D46) (((j:Int),inner,rows,()):D46)=bif entX ((rows.getD i []).getD j 0) then some (.go ((((j+1:Nat):Int),inner,rows,()):D46)) else some (.out (.out (false,()))):=by
   have hx:entX ((rows.getD i []).getD j 0)=!(bif ilt ((rows.getD i []).getD j 0) 1 then true else ilt 8 ((rows.getD i []).getD j 0)):=by
    unfold entX ilt;generalize (rows.getD i []).getD j 0=x
    by_cases h1:1≤x<;>by_cases h2:x≤8<;>simp [h1,h2]<;>omega
   rw [hx];unfold qve;simp only [wad,qak.2 (show (j:Int)<((rows.getD i []).length:Int) by omega),wbs,qam (show -9223372036854775808≤(j:Int)+1∧(j:Int)+1≤9223372036854775807 by omega)]
   rw [qab ⟨by omega,by omega⟩]
   generalize ilt ((rows.getD i []).getD j 0) 1=a;generalize ilt 8 ((rows.getD i []).getD j 0)=b;cases a<;>cases b<;>simp [qac]
  cases hf:entX ((rows.getD i []).getD j 0) with
  | true =>
   rw [hf] at hst;rw [wb1];exact (qb9 hst).trans (ih (j+1) (by omega))
  | false =>
   rw [hf] at hst;rw [wb3];exact qa8 hst
theorem zbf:q0w.goal Try.prog (spOf [qvj,q0q,qzw]) q7j [] lm30:=by
 have e:(∀ (s:SkD),(small s.1∧okL2 s.2.1)→g46 s=some (skB s,()))=q0w.goal Try.prog (spOf [qvj,q0q,qzw]) q7j [] lm30:=by kernel_rfl
 rw [← e];rintro ⟨inner,rows,⟨⟩⟩ ⟨hsm,hr⟩;simp only at hsm hr;have hi10:=hr.1;unfold g46 skB;simp only;rw [qab hsm]
 by_cases hs:qad inner=true
 case neg =>
  have hs':qad inner=false:=by simpa using hs
  simp [hs',qac]
 have hin:=(qal.1 hs).1
 by_cases hl:inner.length≤rows.length
 case neg =>
  have b1:ilt (rows.length:Int) (inner.length:Int)=true:=qak.2 (by omega)
  simp [hs,b1,qac,decide_eq_false hl]
 have b1:ilt (rows.length:Int) (inner.length:Int)=false:=qag.2 (by omega)
 have so:small (qbd (outF inner rows rows.length)):=by
  have:∀ l:List Int,(qbd l).length≤l.length:=by
   intro l
   induction l with
   | nil=>exact wae _
   | cons x l ih=>rw [qbd];split<;>simp<;>omega
  have h1:=this (outF inner rows rows.length);have h2:(outF inner rows rows.length).length=rows.length:=by simp [outF]
  unfold small;omega
 cases ho:qad (qbd (outF inner rows rows.length)) with
 | false=>simp [hs,b1,qac,hl,hr,so,ho]
 | true =>
  simp only [hs,b1,ho,qac,wbr,wbi,wbh,imp_self,and_self,wbp,wbq,wb1,decide_eq_true hl,wb0,wbb,wbo,hr,so];refine Eq.trans (qdx (fun s:D46=>∃ i:Nat,s=((i:Int),inner,rows,())∧i≤rows.length) (fun s:D46=>rows.length-s.1.toNat) (fun s:D46=>(((rows.drop s.1.toNat).all fun r=>r.all entX) && qug inner rows,())) ?_ _ ⟨0,rfl,Nat.zero_le _⟩) ?_
  ·rintro s ⟨i,rfl,hi⟩
   by_cases h:i<rows.length
   ·have hrow:=zdi (inner:=inner) hr h (rows.getD i []).length 0 (by omega)
    rw [wcb] at hrow;simp only [wad,qak.2 (show (i:Int)<(rows.length:Int) by omega),wbs,qvy h [],List.all_cons]
    rw [qab ⟨by omega,by omega⟩]
    cases hf:(rows.getD i []).all entX with
    | true =>
     rw [hf] at hrow;refine .inr ⟨_,hrow,⟨i+1,rfl,by omega⟩,?_,?_⟩
     ·simp only [wad];omega
     ·simp only [wad,wb1]
    | false =>
     rw [hf] at hrow;exact .inl (by rw [wb3,wb3];exact hrow)
   ·obtain rfl:i=rows.length:=by omega
    refine .inl ?_;simp only [wad,qag.2 (waw _),wbr,List.drop_length,List.all_nil,wb1];rw [qab ⟨hs,hr⟩]
  ·rfl
theorem ok46:q0w.Ok Try.prog:=Con.of_goal qb4 (okC ok22 (okC ok90 (okC ok91 okN))) q0w zbf
theorem zc2:q0c.goal Try.prog (spOf [q0w]) q7q [] lm30:=by
 have e:(∀ (rows:List (List Int)),okL2 rows→g34 rows=some (qd4 rows,()))=q0c.goal Try.prog (spOf [q0w]) q7q [] lm30:=by kernel_rfl
 rw [← e];intro rows hr;have hi10:=hr.1;unfold g34;refine Eq.trans (qdx (fun s:Int×Unit=>∃ i:Nat,s=((i:Int),())∧i≤rows.length) (fun s:Int×Unit=>rows.length-s.1.toNat) (fun s:Int×Unit=>(!(rows.drop s.1.toNat).any mtB && skB (([],rows,()):SkD),())) ?_ _ ⟨0,rfl,Nat.zero_le _⟩) rfl
 rintro s ⟨i,rfl,hi⟩
 by_cases h:i<rows.length
 ·simp only [wad,qak.2 (show (i:Int)<(rows.length:Int) by omega),wbs,qvy h [],List.any_cons]
  rw [qab ⟨by omega,by omega⟩]
  have em:ieq ((rows.getD i []).length:Int) 0=mtB (rows.getD i []):=by
   unfold ieq mtB;rw [Bool.eq_iff_iff];simp
  rw [em]
  cases hf:mtB (rows.getD i []) with
  | true=>exact .inl rfl
  | false =>
   refine .inr ⟨(((i+1:Nat):Int),()),?_,⟨i+1,rfl,by omega⟩,?_,?_⟩
   ·rw [wbr,qam (by omega)];rfl
   ·simp only [wad];omega
   ·simp only [wad,Bool.false_or]
 ·obtain rfl:i=rows.length:=by omega
  refine .inl ?_;simp only [wad,qag.2 (waw _),wbr,List.drop_length,List.any_nil,wbh,wb1];rw [qab ⟨by unfold small;simp,hr⟩]
theorem ok34:q0c.Ok Try.prog:=Con.of_goal qb4 (okC ok46 okN) q0c zc2
theorem qs6 {r:List Int} {k:Int}:r.countP (fun x=>decide (x=k))≤r.length:=List.countP_le_length
theorem zbv:qz1.goal Try.prog (spOf []) q8c [] lm30:=by
 have e:(∀ (rows:List (List Int)) (k:Int),okL2 rows→g36 rows k=some (cntF rows k,()))=qz1.goal Try.prog (spOf []) q8c [] lm30:=by kernel_rfl
 rw [← e];intro rows k hr;have hi10:=hr.1;have hbd:∀ i,i≤rows.length→0≤cntF (rows.take i) k∧cntF (rows.take i) k≤1000*(i:Int):=by
  intro i
  induction i with
  | zero=>intro _;simp [cntF]
  | succ i ih =>
   intro h;have h1:=ih (by omega)
   have h2:=hr.2 _ (qfm (show i<rows.length by omega) (d:=[]))
   have h3:=qs6 (r:=rows.getD i []) (k:=k);have:cntF (rows.take (i+1)) k=cntF (rows.take i) k+((rows.getD i []).countP fun x=>decide (x=k):Nat):=by
    unfold cntF;rw [qha (show i<rows.length by omega) [],wbx,List.sum_append]
    simp
   rw [this];omega
 unfold g36;have hfull:rows.take rows.length=rows:=wbl;refine qd0 (fun (i:Nat)=>((cntF (rows.take i) k,(i:Int),()):Int×Int×Unit)) rows.length _ (fun i hi=>?_) ?_
 ·have h0:=hbd i (by omega)
  have h2:=hr.2 _ (qfm hi (d:=[]));have hnx:cntF (rows.take (i+1)) k=cntF (rows.take i) k+((rows.getD i []).countP fun x=>decide (x=k):Nat):=by
   unfold cntF;rw [qha hi [],wbx,List.sum_append];simp
  simp only [qak.2 (show (i:Int)<(rows.length:Int) by omega),wbs,hnx]
  rw [qab ⟨by omega,by omega⟩]
  refine qd0 (fun (j:Nat)=>((cntF (rows.take i) k+(((rows.getD i []).take j).countP fun x=>decide (x=k):Nat),(j:Int),()):Int×Int×Unit)) (rows.getD i []).length _ (fun j hj=>?_) ?_
  ·have hc:=qs6 (r:=(rows.getD i []).take j) (k:=k);have hl:((rows.getD i []).take j).length≤1000:=by simp;omega
   unfold q1c;simp only [wad,qak.2 (show (j:Int)<((rows.getD i []).length:Int) by omega),wbs,qha hj (0:Int),List.countP_append]
   rw [qab ⟨by omega,by omega⟩,qam (n:=(j:Int)+1) (by omega)]
   by_cases hx:(rows.getD i []).getD j 0=k
   ·have c1:List.countP (fun x=>decide (x=k)) [(rows.getD i []).getD j 0]=1:=by rw [hx];simp
    rw [qfs (qcb.2 hx),qam (by omega),c1,Int.natCast_add,← Int.add_assoc]
    rfl
   ·have c0:List.countP (fun x=>decide (x=k)) [(rows.getD i []).getD j 0]=0:=by
     generalize (rows.getD i []).getD j 0=y at hx;simp [List.countP_cons,hx]
    rw [qf6 (qa5.2 hx),c0,Nat.add_zero];rfl
  ·unfold q1c;simp only [wad,qag.2 (waw _),wbr,wbl];rw [qam (by omega)]
   rfl
 ·simp only [qag.2 (waw _),wbr,hfull]
theorem ok36:qz1.Ok Try.prog:=Con.of_goal qb4 okN qz1 zbv
def atR (inner:List Int) (rows:List (List Int)) (i:Nat) (c:Int):Int:=if rowF inner (i:Int)≤c∧c<rowF inner (i:Int)+((rows.getD i []).length:Int) then el rows i (c-rowF inner (i:Int)).toNat else 0
def outI (inner:List Int) (rows:List (List Int)) (i:Nat):Int:=rowF inner (i:Int)+((rows.getD i []).length:Int)
def sumO (inner:List Int) (rows:List (List Int)):Nat→Int
 | 0=>0
 | i+1=>sumO inner rows i+outI inner rows i
structure CondR (inner:List Int) (rows:List (List Int)) (a:Nat):Prop where
 le:outI inner rows a≤if a=0 then 8 else outI inner rows (a-1)
 sum:sumO inner rows (a+1)≤8
 ent:∀ k,k<(rows.getD a []).length→1≤el rows a k∧el rows a k≤8
 row:∀ k,k<(rows.getD a []).length→0<k→el rows a (k-1)≤el rows a k
 col:∀ k,k<(rows.getD a []).length→0<a→atR inner rows (a-1) (rowF inner (a:Int)+(k:Int))<el rows a k
structure SkOk (inner:List Int) (rows:List (List Int)):Prop where
 shp:qad inner=true
 len:inner.length≤rows.length
 l20:rows.length≤20
 cnd:∀ a,a<rows.length→CondR inner rows a
theorem qq5 {inner:List Int} {i:Nat} {full:List Int} {x:Int} {k:Nat} {xs ys:List Int} (h:0<i→bx ys ((i:Int)-1) (rowF inner (i:Int)+(k:Int))=bx xs ((i:Int)-1) (rowF inner (i:Int)+(k:Int))):badE inner i full x k ys↔badE inner i full x k xs:=by
 unfold badE
 by_cases hi:0<i
 ·rw [h hi]
 ·have:¬ (0:Int)<(i:Int):=by omega
  simp only [this,false_and,or_false]
theorem q1n {inner:List Int} {i:Nat} {full:List Int} (hi:i<20) (hr:0≤rowF inner (i:Int)) (hrk:rowF inner (i:Int)+(full.length:Int)≤8) :
  ∀ (n k:Nat) (xs:List Int),k+n=full.length→xs.length=397 →
   ((qhd inner i full (full.drop k) k xs).isSome=true↔∀ t,k≤t→t<full.length→¬ badE inner i full (full.getD t 0) t xs) ∧
   ∀ ys,qhd inner i full (full.drop k) k xs=some ys→ys.length=397∧∀ a b:Nat,a<22→b<18→bx ys a b=if a=i∧rowF inner (i:Int)+(k:Int)≤(b:Int)∧(b:Int)<rowF inner (i:Int)+(full.length:Int) then full.getD ((b:Int)-rowF inner (i:Int)).toNat 0 else bx xs a b:=by
 intro n
 induction n with
 | zero =>
  intro k xs hk hxs;obtain rfl:k=full.length:=by omega
  rw [List.drop_length,qhd];refine ⟨⟨fun _ t h1 h2=>by omega,fun _=>rfl⟩,fun ys h=>?_⟩
  cases h;refine ⟨hxs,fun a b ha hb=>?_⟩
  rw [if_neg (by omega)]
 | succ n ih =>
  intro k xs hk hxs;have hk':k<full.length:=by omega
  rw [qs4 hk'];have hoff:∃ c:Nat,rowF inner (i:Int)+(k:Int)=(c:Int)∧c<8:=⟨(rowF inner (i:Int)+(k:Int)).toNat,by omega,by omega⟩
  obtain ⟨c,hc,hc8⟩:=hoff;have hset:∀ (v:Int) (a b:Nat),a<22→b<18→bx (xs.set ((i:Int)*18+(rowF inner (i:Int)+(k:Int))).toNat v) a b=if a=i∧b=c then v else bx xs a b:=fun v a b ha hb=>by
   rw [hc];exact qy6 (by omega) hb hxs (by omega)
  have hprev:∀ (v:Int) (t:Nat),t<full.length→0<i→bx (xs.set ((i:Int)*18+(rowF inner (i:Int)+(k:Int))).toNat v) ((i:Int)-1) (rowF inner (i:Int)+(t:Int))=bx xs ((i:Int)-1) (rowF inner (i:Int)+(t:Int)):=fun v t ht hi0=>by
   obtain ⟨d,hd⟩:∃ d:Nat,rowF inner (i:Int)+(t:Int)=(d:Int):=⟨(rowF inner (i:Int)+(t:Int)).toNat,by omega⟩
   have e:((i:Int)-1)=((i-1:Nat):Int):=by omega
   rw [hd,e,hset v (i-1) d (by omega) (by omega),if_neg (by omega)]
  obtain ⟨h1,h2⟩:=ih (k+1) (xs.set ((i:Int)*18+(rowF inner (i:Int)+(k:Int))).toNat (full.getD k 0)) (by omega) (by rw [wak];exact hxs)
  by_cases hbad:badE inner i full (full.getD k 0) k xs
  ·rw [if_pos hbad];refine ⟨⟨fun h=>(by cases h),fun h=>absurd hbad (h k (wae _) hk')⟩,fun ys h=>(by cases h)⟩
  ·rw [if_neg hbad];refine ⟨h1.trans ⟨fun h t ht1 ht2=>?_,fun h t ht1 ht2=>?_⟩,fun ys hys=>?_⟩
   ·by_cases htk:t=k
    ·subst htk;exact hbad
    ·have:=h t (by omega) ht2
     rwa [qq5 (fun h0=>hprev _ t ht2 h0)] at this
   ·rw [qq5 (fun h0=>hprev _ t ht2 h0)]
    exact h t (by omega) ht2
   ·obtain ⟨g1,g2⟩:=h2 ys hys;refine ⟨g1,fun a b ha hb=>?_⟩
    rw [g2 a b ha hb,hset _ a b ha hb]
    by_cases hA:a=i∧rowF inner (i:Int)+((k+1:Nat):Int)≤(b:Int)∧(b:Int)<rowF inner (i:Int)+(full.length:Int)
    ·rw [if_pos hA,if_pos (by omega)]
    ·rw [if_neg hA]
     by_cases hB:a=i∧b=c
     ·rw [if_pos hB,if_pos (by omega)]
      congr 1;omega
     ·rw [if_neg hB,if_neg (by omega)]
theorem q6o {inner:List Int} {rows:List (List Int)} {i t:Nat} {xs:List Int} (hx:0<i→bx xs ((i:Int)-1) (rowF inner (i:Int)+(t:Int))=atR inner rows (i-1) (rowF inner (i:Int)+(t:Int))) :
  ¬ badE inner i (rows.getD i []) ((rows.getD i []).getD t 0) t xs↔(1≤el rows i t∧el rows i t≤8)∧(0<t→el rows i (t-1)≤el rows i t)∧(0<i→atR inner rows (i-1) (rowF inner (i:Int)+(t:Int))<el rows i t):=by
 have e0:(rows.getD i []).getD t 0=el rows i t:=rfl;have e1:(rows.getD i []).getD ((t:Int)-1).toNat 0=el rows i ((t:Int)-1).toNat:=rfl;have e2:((t:Int)-1).toNat=t-1:=by omega
 unfold badE;rw [e0,e1,e2]
 by_cases hi:0<i
 ·rw [hx hi];constructor
  ·intro h;refine ⟨by omega,fun h0=>by omega,fun _=>by omega⟩
  ·rintro ⟨h1,h2,h3⟩ h;have:=h3 hi
   rcases h with h | h | h
   ·omega
   ·have:=h2 (by omega);omega
   ·omega
 ·constructor
  ·intro h;refine ⟨by omega,fun h0=>by omega,fun h0=>absurd h0 hi⟩
  ·rintro ⟨h1,h2,h3⟩ h
   rcases h with h | h | h
   ·omega
   ·have:=h2 (by omega);omega
   ·omega
theorem qvi {inner:List Int} {rows:List (List Int)} (hs:qad inner=true) (h20:rows.length≤20) :
  ∀ (n i:Nat) (last:Int) (xs:List Int),i+n=rows.length→xs.length=397→(last=if i=0 then 8 else outI inner rows (i-1))→last≤8 →
   (∀ a b:Nat,a<22→b<18→bx xs a b=if a<i then atR inner rows a b else 0) →
   ((qk8 inner (rows.drop i) i (sumO inner rows i) last xs).isSome=true↔∀ a,i≤a→a<rows.length→CondR inner rows a) ∧
   ∀ ys,qk8 inner (rows.drop i) i (sumO inner rows i) last xs=some ys→ys.length=397∧∀ a b:Nat,a<22→b<18→bx ys a b=atR inner rows a b:=by
 intro n
 induction n with
 | zero =>
  intro i last xs hi hxs hlast hl8 hfill;obtain rfl:i=rows.length:=by omega
  rw [List.drop_length,qk8];refine ⟨⟨fun _ a h1 h2=>by omega,fun _=>rfl⟩,fun ys h=>?_⟩
  cases h;refine ⟨hxs,fun a b ha hb=>?_⟩
  rw [hfill a b ha hb]
  by_cases h:a<rows.length
  ·rw [if_pos h]
  ·rw [if_neg h];unfold atR;rw [waa,wac (by omega)]
   rw [if_neg (by simp)]
 | succ n ih =>
  intro i last xs hi hxs hlast hl8 hfill;have hil:i<rows.length:=by omega
  have hrow:=qaz hs i;rw [qm0 hil];have ho:rowF inner (i:Int)+((rows.getD i []).length:Int)=outI inner rows i:=rfl;have hsum:sumO inner rows i+outI inner rows i=sumO inner rows (i+1):=rfl;rw [ho,hsum]
  by_cases hc:last<outI inner rows i∨8<sumO inner rows (i+1)
  ·rw [if_pos hc];refine ⟨⟨fun h=>(by cases h),fun h=>?_⟩,fun ys h=>by cases h⟩
   have:=h i (wae _) hil;have h1:=this.le;have h2:=this.sum;rw [← hlast] at h1;omega
  ·rw [if_neg hc];have hrk:rowF inner (i:Int)+((rows.getD i []).length:Int)≤8:=by rw [ho];omega
   obtain ⟨r1,r2⟩:=q1n (inner:=inner) (i:=i) (full:=rows.getD i []) (by omega) hrow.1 hrk (rows.getD i []).length 0 xs (by omega) hxs
   rw [wcb] at r1 r2;have hb:∀ t,t<(rows.getD i []).length→(¬ badE inner i (rows.getD i []) ((rows.getD i []).getD t 0) t xs↔(1≤el rows i t∧el rows i t≤8)∧(0<t→el rows i (t-1)≤el rows i t)∧(0<i→atR inner rows (i-1) (rowF inner (i:Int)+(t:Int))<el rows i t)):=fun t ht=>q6o fun h0=>by
    obtain ⟨d,hd⟩:∃ d:Nat,rowF inner (i:Int)+(t:Int)=(d:Int):=⟨(rowF inner (i:Int)+(t:Int)).toNat,by omega⟩
    rw [hd,show ((i:Int)-1)=((i-1:Nat):Int) by omega,hfill (i-1) d (by omega) (by omega),if_pos (by omega)]
   have hcond:(∀ t,0≤t→t<(rows.getD i []).length→¬ badE inner i (rows.getD i []) ((rows.getD i []).getD t 0) t xs)↔CondR inner rows i:=by
    constructor
    ·intro h;exact ⟨by rw [← hlast];omega,by omega,fun k hk=>((hb k hk).1 (h k (Nat.zero_le _) hk)).1,fun k hk=>((hb k hk).1 (h k (Nat.zero_le _) hk)).2.1,fun k hk=>((hb k hk).1 (h k (Nat.zero_le _) hk)).2.2⟩
    ·intro h t _ ht;exact (hb t ht).2 ⟨h.ent t ht,h.row t ht,h.col t ht⟩
   rw [show ((0:Nat):Int)=0 from rfl] at r1 r2
   cases hR:qhd inner i (rows.getD i []) (rows.getD i []) 0 xs with
   | none =>
    rw [hR] at r1;have hno:¬ CondR inner rows i:=fun h=>by have:=r1.2 (hcond.2 h);cases this
    exact ⟨⟨fun h=>(by cases h),fun h=>absurd (h i (wae _) hil) hno⟩,fun ys h=>by cases h⟩
   | some xs' =>
    rw [hR] at r1;have hyes:=hcond.1 (r1.1 rfl);obtain ⟨q1,q2⟩:=r2 xs' hR;have hf':∀ a b:Nat,a<22→b<18→bx xs' a b=if a<i+1 then atR inner rows a b else 0:=fun a b ha hb=>by
     rw [q2 a b ha hb,hfill a b ha hb]
     by_cases hai:a=i
     ·subst hai;rw [if_pos (show a<a+1 by omega),if_neg (show ¬ a<a by omega)]
      unfold atR
      by_cases hq:rowF inner (a:Int)≤(b:Int)∧(b:Int)<rowF inner (a:Int)+((rows.getD a []).length:Int)
      ·rw [if_pos hq,if_pos ⟨rfl,by omega,hq.2⟩];rfl
      ·rw [if_neg hq,if_neg (fun h=>hq ⟨by omega,h.2.2⟩)]
     ·rw [if_neg (fun h=>hai h.1)]
      by_cases hlt:a<i
      ·rw [if_pos hlt,if_pos (by omega)]
      ·rw [if_neg hlt,if_neg (by omega)]
    obtain ⟨s1,s2⟩:=ih (i+1) (outI inner rows i) xs' (by omega) q1 (by rw [if_neg (by omega)];rfl) (by omega) hf'
    refine ⟨s1.trans ⟨fun h a h1 h2=>?_,fun h a h1 h2=>h a (by omega) h2⟩,s2⟩
    by_cases hai:a=i
    ·subst hai;exact hyes
    ·exact h a (by omega) h2
theorem q4h {n a b:Nat} (ha:a<22) (hb:b<18):bx (box0 n) a b=0:=by
 unfold bx box0;rw [waa,wag (by rw [wax];omega),wa6,if_pos (by omega)]
 rfl
theorem qnb {inner:List Int} {rows:List (List Int)}:(qd5 ((inner,rows,()):SkD)).isSome=true↔SkOk inner rows:=by
 unfold qd5;simp only
 by_cases h:qad inner=true∧inner.length≤rows.length∧rows.length≤20
 ·rw [if_pos h];have:=(qvi (rows:=rows) h.1 h.2.2 rows.length 0 8 (box0 rows.length) (by omega) qmy rfl (by omega) (fun a b ha hb=>by rw [q4h ha hb,if_neg (by omega)])).1
  exact this.trans ⟨fun hh=>⟨h.1,h.2.1,h.2.2,fun a ha=>hh a (Nat.zero_le _) ha⟩,fun hh a _ ha=>hh.cnd a ha⟩
 ·rw [if_neg h];exact ⟨fun hh=>(by cases hh),fun hh=>absurd ⟨hh.shp,hh.len,hh.l20⟩ h⟩
theorem q6n {inner:List Int} {rows:List (List Int)} {ys:List Int} (h:qd5 ((inner,rows,()):SkD)=some ys):ys.length=397∧∀ a b:Nat,a<22→b<18→bx ys a b=atR inner rows a b:=by
 have hok:=qnb.1 (by rw [h];rfl)
 unfold qd5 at h;simp only at h;rw [if_pos ⟨hok.shp,hok.len,hok.l20⟩] at h;exact (qvi (rows:=rows) hok.shp hok.l20 rows.length 0 8 (box0 rows.length) (by omega) qmy rfl (by omega) (fun a b ha hb=>by rw [q4h ha hb,if_neg (by omega)])).2 ys h
theorem qlq:∀ {o:List Int},∃ m,o=qbd o++List.replicate m 0
 | []=>⟨0,rfl⟩
 | x::o=>by
  obtain ⟨m,hm⟩:=qlq (o:=o);rw [qbd]
  by_cases h:qbd o=[]∧x=0
  ·rw [if_pos h];refine ⟨m+1,?_⟩;rw [h.1] at hm;rw [wbu] at hm ⊢;rw [List.replicate_succ,← hm,h.2]
  ·rw [if_neg h];exact ⟨m,by rw [wbt,← hm]⟩
theorem qp3:∀ {o:List Int},0<(qbd o).length→(qbd o).getD ((qbd o).length-1) 0≠0
 | [],h=>by simp [qbd] at h
 | x::o,h=>by
  rw [qbd] at h ⊢
  by_cases hh:qbd o=[]∧x=0
  ·rw [if_pos hh] at h;simp at h
  ·rw [if_neg hh] at h ⊢
   by_cases h0:qbd o=[]
   ·rw [h0];have:x≠0:=fun hx=>hh ⟨h0,hx⟩
    simpa using this
   ·have hl:0<(qbd o).length:=List.length_pos_iff.2 h0;have:=qp3 hl;rw [wbf,show (qbd o).length+1-1=((qbd o).length-1)+1 by omega]
    simpa using this
theorem qk7:∀ {t:List Int},(∀ x∈t,1≤x)→(t.length:Int)≤t.sum
 | [],_=>by simp
 | x::t,h=>by
  have h1:=h x (wa7 ..);have h2:=qk7 (t:=t) fun y hy=>h y (wan _ hy)
  simp;omega
theorem q2l {o:Nat→Int} {n:Nat} (h:∀ i,i+1<n→o (i+1)≤o i):∀ {d i:Nat},i+d<n→o (i+d)≤o i
 | 0,i,_=>waw _
 | d+1,i,hd=>by
  have h1:=h (i+d) (by omega)
  have h2:=q2l h (d:=d) (i:=i) (by omega)
  rw [← Nat.add_assoc];omega
theorem qt2:∀ {m:Nat},(List.replicate m (0:Int)).sum=0
 | 0=>rfl
 | m+1=>by rw [List.replicate_succ,List.sum_cons,qt2];rfl
theorem q0y {o:List Int} (h0:∀ x∈o,0≤x):qad (qbd o)=true↔(∀ i,i<o.length→o.getD i 0≤if i=0 then 8 else o.getD (i-1) 0)∧o.sum≤8:=by
 obtain ⟨m,hm⟩:=qlq (o:=o);have hsum:o.sum=(qbd o).sum:=by
  have:=congrArg List.sum hm;rw [List.sum_append,qt2] at this;omega
 have hget:∀ i,i<(qbd o).length→o.getD i 0=(qbd o).getD i 0:=fun i hi=>by
  have this:o.getD i 0=(qbd o++List.replicate m 0).getD i 0:=congrArg (fun l=>List.getD l i (0:Int)) hm
  rw [this,waa,wag hi,waa]
 have hget0:∀ i,(qbd o).length≤i→o.getD i 0=0:=fun i hi=>by
  have this:o.getD i 0=(qbd o++List.replicate m 0).getD i 0:=congrArg (fun l=>List.getD l i (0:Int)) hm
  rw [this,waa,wah hi,wa6];split<;>rfl
 have hnn:∀ i,0≤o.getD i 0:=fun i=>by
  rw [waa]
  cases h:o[i]? with
  | none=>simp
  | some x=>exact h0 x (wb8 h)
 have hlen:(qbd o).length≤o.length:=by
  have:=congrArg List.length hm;rw [waf] at this;omega
 rw [qal];constructor
 ·rintro ⟨h1,h2,h3⟩;refine ⟨fun i hi=>?_,by rw [hsum];exact h3⟩
  by_cases hit:i<(qbd o).length
  ·have:=qcc.1 (h2 i hit)
   by_cases hi0:i=0
   ·rw [if_pos hi0,hget i hit];exact this.1.2
   ·rw [if_neg hi0,hget i hit,hget (i-1) (by omega)]
    have h4:=this.2;obtain ⟨j,rfl⟩:∃ j,i=j+1:=⟨i-1,by omega⟩
    simpa using h4
  ·rw [hget0 i (by omega)]
   split
   ·omega
   ·exact hnn _
 ·rintro ⟨h1,h2⟩;have hdec:∀ i,i+1<(qbd o).length→(qbd o).getD (i+1) 0≤(qbd o).getD i 0:=fun i hi=>by
   have:=h1 (i+1) (by omega)
   rw [if_neg (by omega),hget _ hi,show i+1-1=i from rfl,hget i (by omega)] at this
   exact this
  have hone:∀ i,i<(qbd o).length→1≤(qbd o).getD i 0∧(qbd o).getD i 0≤8:=fun i hi=>by
   have hl:=qp3 (o:=o) (by omega)
   have hl1:1≤(qbd o).getD ((qbd o).length-1) 0:=by
    have:=hnn ((qbd o).length-1);rw [hget _ (by omega)] at this
    omega
   have hd:=q2l (o:=fun i=>(qbd o).getD i 0) hdec (d:=(qbd o).length-1-i) (i:=i) (by omega)
   have hd0:=q2l (o:=fun i=>(qbd o).getD i 0) hdec (d:=i) (i:=0) (by omega)
   rw [show i+((qbd o).length-1-i)=(qbd o).length-1 by omega] at hd
   rw [wbj] at hd0;have h8:=h1 0 (by omega)
   rw [if_pos rfl,hget 0 (by omega)] at h8
   omega
  have hmem:∀ x∈qbd o,1≤x:=fun x hx=>by
   obtain ⟨i,hi,rfl⟩:=List.getElem_of_mem hx;have:=(hone i hi).1
   rwa [waa,wab hi] at this
  have hls:=qk7 hmem;refine ⟨by omega,fun i hi=>qcc.2 ⟨hone i hi,?_⟩,by rw [← hsum];exact h2⟩
  cases i with
  | zero=>first | trivial | simp
  | succ j=>exact (by simpa using hdec j hi)
theorem qmz {inner:List Int} {rows:List (List Int)} {n i:Nat} (h:i<n):(outF inner rows n).getD i 0=outI inner rows i:=by
 unfold outF;rw [waa,waq,wa0 h];rfl
theorem qxw {inner:List Int} {rows:List (List Int)}:∀ {n:Nat},(outF inner rows n).sum=sumO inner rows n
 | 0=>rfl
 | n+1=>by
  have:=qxw (inner:=inner) (rows:=rows) (n:=n);unfold outF at this ⊢;rw [List.range_succ,wbx,List.sum_append,this,sumO];simp [outI]
theorem qvn {inner:List Int} {rows:List (List Int)} (hs:qad inner=true):∀ {d n:Nat},sumO inner rows n≤sumO inner rows (n+d)
 | 0,n=>waw _
 | d+1,n=>by
  have h1:=qvn hs (d:=d) (n:=n) (rows:=rows);have h2:=(qaz hs (n+d)).1;rw [← Nat.add_assoc,sumO];unfold outI;omega
theorem qy7 {inner:List Int} {rows:List (List Int)} {a k:Nat} (hp:0<el rows a k):fitB inner rows a k=true↔(0<k→el rows a (k-1)≤el rows a k)∧(0<a→atR inner rows (a-1) (rowF inner (a:Int)+(k:Int))<el rows a k):=by
 unfold fitB atR;simp only [wbc,wbw,wbn,Bool.not_eq_true',Bool.and_eq_false_iff,decide_eq_false_iff_not]
 by_cases ha:a=0
 ·subst ha;constructor
  ·rintro ⟨h1,_⟩;exact ⟨fun h=>h1.resolve_left (by omega),fun h=>absurd h (by omega)⟩
  ·rintro ⟨h1,_⟩;refine ⟨?_,.inl rfl⟩
   by_cases hk:k=0
   ·exact .inl hk
   ·exact .inr (h1 (by omega))
 ·have e:((a:Int)-1)=((a-1:Nat):Int):=by omega
  rw [e];have e2:(rowF inner (a:Int)+(k:Int)-rowF inner ((a-1:Nat):Int))=(rowF inner (a:Int)+(k:Int))-rowF inner ((a-1:Nat):Int):=rfl;constructor
  ·rintro ⟨h1,h2⟩;refine ⟨fun h=>h1.resolve_left (by omega),fun _=>?_⟩
   have h3:=h2.resolve_left ha;split
   ·rename_i hr
    rcases h3 with h | h | h
    ·omega
    ·omega
    ·omega
   ·exact hp
  ·rintro ⟨h1,h2⟩;have h3:=h2 (by omega)
   refine ⟨?_,.inr ?_⟩
   ·by_cases hk:k=0
    ·exact .inl hk
    ·exact .inr (h1 (by omega))
   ·split at h3
    ·exact .inr (.inr (by omega))
    ·rename_i hr
     by_cases h4:0≤rowF inner (a:Int)+(k:Int)-rowF inner ((a-1:Nat):Int)
     ·exact .inr (.inl (by omega))
     ·exact .inl h4
theorem q9t {inner:List Int} {rows:List (List Int)} (h20:rows.length≤20):skB ((inner,rows,()):SkD)=true↔SkOk inner rows:=by
 unfold skB;simp only [wbc,wbn]
 by_cases hs:qad inner=true
 case neg=>exact ⟨fun h=>absurd h.1.1.1.1 hs,fun h=>absurd h.shp hs⟩
 have hnn:∀ x∈outF inner rows rows.length,0≤x:=fun x hx=>by
  unfold outF at hx;obtain ⟨i,_,rfl⟩:=List.mem_map.1 hx;have:=(qaz hs i).1;omega
 have hol:(outF inner rows rows.length).length=rows.length:=by simp [outF]
 rw [q0y hnn,hol,qxw];have hle:(∀ i,i<rows.length→(outF inner rows rows.length).getD i 0≤if i=0 then 8 else (outF inner rows rows.length).getD (i-1) 0)↔∀ a,a<rows.length→outI inner rows a≤if a=0 then 8 else outI inner rows (a-1):=by
  constructor
  ·intro h a ha;have:=h a ha;rw [qmz ha] at this
   by_cases h0:a=0
   ·rw [if_pos h0] at this ⊢;exact this
   ·rw [if_neg h0,qmz (by omega)] at this;rw [if_neg h0];exact this
  ·intro h a ha;have:=h a ha;rw [qmz ha]
   by_cases h0:a=0
   ·rw [if_pos h0] at this ⊢;exact this
   ·rw [if_neg h0] at this;rw [if_neg h0,qmz (by omega)];exact this
 rw [hle];have hent:entB rows=true↔∀ a,a<rows.length→∀ k,k<(rows.getD a []).length→1≤el rows a k∧el rows a k≤8:=by
  unfold entB;simp only [wb9,wbc,wbn];constructor
  ·intro h a ha k hk;exact h (rows.getD a []) (qfm ha) (el rows a k) (qfm hk)
  ·intro h r hr x hx;obtain ⟨a,ha,rfl⟩:=List.getElem_of_mem hr;obtain ⟨k,hk,rfl⟩:=List.getElem_of_mem hx;have e:rows.getD a []=rows[a]:=by rw [waa,wab ha];rfl
   have:=h a ha k (by rw [e];exact hk)
   unfold el at this;rw [e,waa,wab hk] at this;exact this
 have hfit:qug inner rows=true↔∀ a,a<rows.length→∀ k,k<(rows.getD a []).length→fitB inner rows a k=true:=by
  unfold qug;simp only [wb9,List.mem_range]
 rw [hent,hfit];constructor
 ·rintro ⟨⟨⟨⟨_,h1⟩,h2,h3⟩,h4⟩,h5⟩;refine ⟨hs,h1,h20,fun a ha=>?_⟩
  have hf:=fun k hk=>(qy7 (by have:=(h4 a ha k hk).1;omega)).1 (h5 a ha k hk)
  refine ⟨h2 a ha,?_,h4 a ha,fun k hk=>(hf k hk).1,fun k hk=>(hf k hk).2⟩
  have:=qvn hs (rows:=rows) (n:=a+1) (d:=rows.length-(a+1));rw [show a+1+(rows.length-(a+1))=rows.length by omega] at this
  omega
 ·intro h;refine ⟨⟨⟨⟨hs,h.len⟩,fun a ha=>(h.cnd a ha).le,?_⟩,fun a ha=>(h.cnd a ha).ent⟩,fun a ha k hk=>(qy7 (by have:=((h.cnd a ha).ent k hk).1;omega)).2 ⟨(h.cnd a ha).row k hk,(h.cnd a ha).col k hk⟩⟩
  by_cases h0:rows.length=0
  ·rw [h0];simp [sumO]
  ·have:=(h.cnd (rows.length-1) (by omega)).sum
   rw [show rows.length-1+1=rows.length by omega] at this
   exact this
structure Fil (rows:List (List Int)):Prop where
 l8:rows.length≤8
 len8:∀ i,(rows.getD i []).length≤8
 dec:∀ i,(rows.getD (i+1) []).length≤(rows.getD i []).length
 pos:∀ i,i<rows.length→0<(rows.getD i []).length
 ent:∀ i j,j<(rows.getD i []).length→1≤el rows i j∧el rows i j≤8
 row:∀ i j,j+1<(rows.getD i []).length→el rows i j≤el rows i (j+1)
 col:∀ i j,j<(rows.getD (i+1) []).length→el rows i j<el rows (i+1) j
theorem getD_none {rows:List (List Int)} {i:Nat} (h:rows.length≤i):rows.getD i []=[]:=by
 rw [waa,wac h];rfl
theorem qm1 {rows:List (List Int)} {k:Int} {i j:Nat}:q6s rows k i j=true↔(el rows i j=k∧¬ (j<(rows.getD (i+1) []).length∧el rows (i+1) j=k+1))∨(el rows i j=k+1∧¬ (0<i∧el rows (i-1) j=k)):=by
 unfold q6s;simp only [wbw,wbc,wbn,Bool.not_eq_true',Bool.and_eq_false_iff,decide_eq_false_iff_not];constructor
 ·rintro (⟨h1,h2⟩ | ⟨h1,h2⟩)
  ·exact .inl ⟨h1,fun h=>h2.elim (fun g=>g h.1) (fun g=>g h.2)⟩
  ·exact .inr ⟨h1,fun h=>h2.elim (fun g=>g h.1) (fun g=>g h.2)⟩
 ·rintro (⟨h1,h2⟩ | ⟨h1,h2⟩)
  ·refine .inl ⟨h1,?_⟩
   by_cases hh:j<(rows.getD (i+1) []).length
   ·exact .inr fun hx=>h2 ⟨hh,hx⟩
   ·exact .inl hh
  ·refine .inr ⟨h1,?_⟩
   by_cases hh:0<i
   ·exact .inr fun hx=>h2 ⟨hh,hx⟩
   ·exact .inl hh
theorem small_ofL {α:Type} {l:List α} (h:l.length≤maxLen):small l:=by
 have:maxLen=9223372036854775807:=by decide
 unfold small;omega
theorem q88 {t r:List (List Int)} {x:List Int} (h:x∈tabF t):x.length≤12:=by
 simp only [tabF,List.mem_map] at h;obtain ⟨y,_,rfl⟩:=h;simp;omega
theorem q25 {t:List (List Int)} (h:t.length≤12) (h2:∀ r∈t,r.length≤12):tabF t=t:=by
 unfold tabF;rw [wal h];have:∀ r∈t,(fun r:List Int=>r.take 12) r=id r:=fun r hr=>wal (h2 r hr)
 rw [List.map_congr_left this,List.map_id]
theorem zcy {rows:List (List Int)} {i j:Nat} (h:(rows.getD i []).length≤j):el rows i j=0:=by
 unfold el;rw [waa,wac h];rfl
theorem bnd {rows:List (List Int)} {k:Int} (hk:1≤k) {i j:Nat}:(el rows i j=k∧¬ q6s rows k i j=true)↔(el rows (i+1) j=k+1∧¬ q6s rows k (i+1) j=true):=by
 constructor
 ·rintro ⟨h1,h2⟩;rw [qm1] at h2;have h3:el rows (i+1) j=k+1:=by omega
  refine ⟨h3,fun h4=>?_⟩
  rw [qm1,show i+1-1=i by omega] at h4
  omega
 ·rintro ⟨h1,h2⟩;rw [qm1,show i+1-1=i by omega] at h2
  have h3:el rows i j=k:=by omega
  have h5:j<(rows.getD (i+1) []).length:=by
   by_cases hl:j<(rows.getD (i+1) []).length
   ·exact hl
   ·rw [zcy (by omega)] at h1;omega
  refine ⟨h3,fun h4=>?_⟩
  rw [qm1] at h4;omega
end
end Go.Schur
