/- Fillings: contracts. -/
import Derived.Test.YtobghbapmlnmoaaProg
import Derived.Test.YtobghbapmlnmoaaAT
set_option maxRecDepth 100000
set_option linter.unusedVariables false
set_option linter.unusedSimpArgs false
namespace Go.Schur
open Go Go.Ab Go.Proofs
abbrev LLI:Ty:=.slice LI
abbrev L3I:Ty:=.slice LLI
def rowF (l:List Int) (i:Int):Int:=if i<0 then 0 else l.getD i.toNat 0
noncomputable def qeb:Con:=mkC 110 [.d LI,.d I64] [I64] (fun (l:List Int) (i:Int)=>[0≤i∧l.length≤1000]) (fun (l:List Int) (i:Int)=>(rowF l i,()))
noncomputable def g110 (x0:List Int) (x1:Int):Option (Int×Unit):=bif ilt x1 (↑(List.length x0):Int) then gd (0≤x1∧x1<(↑(List.length x0):Int)) (some ((List.getD x0 (Int.toNat x1) 0,()):Int×Unit)) else some ((0,()):Int×Unit)
noncomputable def q05:List LSh:=([]:List LSh)
abbrev MkT:Ty:=.prod LI (.prod LI (.prod LI (.prod I64 (.prod LLI .unit))))
abbrev MkD:=List Int×List Int×List Int×Int×List (List Int)×Unit
def atF (inner:List Int) (rows:List (List Int)) (i j:Int):Int:=if i<0∨j<rowF inner i then 0 else (rows.getD i.toNat []).getD (j-rowF inner i).toNat 0
def atP (inner:List Int) (rows:List (List Int)) (i j:Int):Prop:=inner.length≤1000∧i<rows.length ∧ -1000≤i∧j≤1000∧(0≤i→0≤rowF inner i∧rowF inner i≤1000∧j-rowF inner i<(rows.getD i.toNat []).length)
noncomputable def qmi:Con:=mkC 111 [.d (.ptr MkT),.d I64,.d I64] [I64] (fun (k:MkD) (i j:Int)=>[atP k.1 k.2.2.2.2.1 i j]) (fun (k:MkD) (i j:Int)=>(atF k.1 k.2.2.2.2.1 i j,()))
noncomputable def g111 (x0:List Int×List Int×List Int×Int×List (List Int)×Unit) (x1 x2:Int):Option (Int×Unit):=gd ((!ilt x1 0)=true→(!ilt x1 0)=true) (gd ((!ilt x1 0)=true→(!ilt x1 0)=true) (gd ((!ilt x1 0)=true→(!ilt x1 0)=true) (gd ((!ilt x1 0)=true→(!ilt x1 0)=true∧(!ilt x1 0)=true∧0≤x1∧List.length x0.1≤1000) (gd ((!ilt x1 0)=true→(!ilt x1 0)=true∧(!ilt x1 0)=true) (gd (ilt x1 0=false→(!ilt x1 0)=true) (bif bif ilt x1 0 then true else ilt x2 (rowF x0.1 x1) then some ((0,()):Int×Unit) else gd (0≤x1∧x1<(↑(List.length x0.2.2.2.2.1):Int)) (gd (0≤x1∧List.length x0.1≤1000) (gd (0≤wr .i64 (x2-rowF x0.1 x1)∧wr .i64 (x2-rowF x0.1 x1)<(↑(List.length (List.getD x0.2.2.2.2.1 (Int.toNat x1) ([]:List Int))):Int)) (some ((List.getD (List.getD x0.2.2.2.2.1 (Int.toNat x1) ([]:List Int)) (Int.toNat (wr .i64 (x2-rowF x0.1 x1))) 0,()):Int×Unit))))))))))
noncomputable def q4c:List LSh:=([]:List LSh)
noncomputable def qga:SCon:=mkS 39 [.v LI] [] [.slf 0 1] [.arr I64 true] (fun (l:List Int)=>[l.length≤100000]) (fun (l:List Int)=>(l,()))
noncomputable def g39s (x0:List Int):Option (List Int×Unit):=Option.map id (eqO (List.length x0=0) (gd ((0:Nat)=0) (some ((([]:List Int),()):List Int×Unit))) (gd ((0:Nat)≤0) (gd ((0+List.length x0)*(8:Nat)≤1099511627776) (gd (0+List.length x0=List.length x0) (some ((x0,()):List Int×Unit))))))
noncomputable def q26:List LSh:=([]:List LSh)
noncomputable def qzz:SCon:=mkS 70 [.slf 0 1] [.nest I64] [.v LLI] [.nest I64] (fun (rows:List (List Int))=>[rows.length≤1000∧∀ r∈rows,r.length≤1000]) (fun (rows:List (List Int))=>(rows,rows,()))
open List Int in
noncomputable def g70 (x0:List (List Int)):Option (List (List Int)×List (List Int)×Unit):=gd ((0:Nat)=0) (gd (length x0=length x0) (qat (fun (d1:Int×List (List Int)×List (List Int)×Unit)=>bif ilt d1.1 (↑(length x0):Int) then gd (0≤d1.1∧d1.1<(↑(length d1.2.1):Int)) (gd (0+toNat d1.1<length d1.2.1) (gd (0+length (getD d1.2.1 (0+toNat d1.1) ([]:List Int))≤length (getD d1.2.1 (0+toNat d1.1) ([]:List Int))) (gd (length (take (length (getD d1.2.1 (0+toNat d1.1) ([]:List Int))) (drop 0 (getD d1.2.1 (0+toNat d1.1) ([]:List Int))))≤100000) (gd (0+length (take (length (getD d1.2.1 (0+toNat d1.1) ([]:List Int))) (drop 0 (getD d1.2.1 (0+toNat d1.1) ([]:List Int))))≤length (take (length (getD d1.2.1 (0+toNat d1.1) ([]:List Int))) (drop 0 (getD d1.2.1 (0+toNat d1.1) ([]:List Int))))) (gd (length d1.2.2.1≤length d1.2.2.1) (gd ((length d1.2.2.1+1)*(24:Nat)≤1099511627776) (gd (length d1.2.2.1+1=length (take (length d1.2.2.1) d1.2.2.1++take (length (take (length (getD d1.2.1 (0+toNat d1.1) ([]:List Int))) (drop 0 (getD d1.2.1 (0+toNat d1.1) ([]:List Int))))) (drop 0 (take (length (getD d1.2.1 (0+toNat d1.1) ([]:List Int))) (drop 0 (getD d1.2.1 (0+toNat d1.1) ([]:List Int)))))::([]:List (List Int)))) (gd (length d1.2.1=length d1.2.1) (some (Lp.go ((wr .i64 (d1.1+1),d1.2.1,take (length d1.2.2.1) d1.2.2.1++take (length (take (length (getD d1.2.1 (0+toNat d1.1) ([]:List Int))) (drop 0 (getD d1.2.1 (0+toNat d1.1) ([]:List Int))))) (drop 0 (take (length (getD d1.2.1 (0+toNat d1.1) ([]:List Int))) (drop 0 (getD d1.2.1 (0+toNat d1.1) ([]:List Int)))))::([]:List (List Int)),()):Int×List (List Int)×List (List Int)×Unit))))))))))) else gd (0+length d1.2.2.1≤length d1.2.2.1) (some (Lp.out ((take (length d1.2.2.1) (drop 0 d1.2.2.1),d1.2.1,()):List (List Int)×List (List Int)×Unit)))) ((0,x0,([]:List (List Int)),()):Int×List (List Int)×List (List Int)×Unit)))
noncomputable def q7m:List LSh:=LSh.mk3 (((3,TV.slf (1) (1)):Nat×TV)::((7,TV.slf (0) (1)):Nat×TV)::((9,TV.v (Ty.int .i64)):Nat×TV)::([]:List (Nat×TV))) (TB.nest (Ty.int .i64)::TB.arr (Ty.slice (Ty.int .i64)) true::([]:List TB)) (1)::([]:List LSh)
def okR (rows:List (List Int)):Prop:=rows.length≤1000∧∀ r∈rows,r.length≤1000
noncomputable def q00:SCon:=mkS 69 [.slf 0 1,.ref 1 1 0 0] [.nest I64,.cells [.slf 2 1],.arr LLI true] [.v .bool] [.nest I64,.cells [.slf 3 1],.dead,.arr LLI true] (fun (rows:List (List Int)) (out:List (List (List Int)))=>[okR rows∧out.length≤1000000000]) (fun (rows:List (List Int)) (out:List (List (List Int)))=>(true,rows,out++[rows],()))
noncomputable def g69 (x0:List (List Int)) (x1:List (List (List Int))):Option (Bool×List (List Int)×List (List (List Int))×Unit):=gd (List.length x0=List.length x0) (gd (List.length x0≤1000∧∀ (x2:List Int),List.Mem x2 x0→List.length x2≤1000) (gd (List.length x1≤List.length x1) (gd ((List.length x1+1)*(24:Nat)≤1099511627776) (gd (List.length x1+1=List.length (List.take (List.length x1) x1++x0::([]:List (List (List Int))))) (some ((true,x0,List.take (List.length x1) x1++x0::([]:List (List (List Int))),()):Bool×List (List Int)×List (List (List Int))×Unit))))))
noncomputable def q77:List LSh:=([]:List LSh)
def qcu (inner:List Int) (rows:List (List Int)):Int :=
 if rows.getLastD []=[] then max 1 (atF inner rows (rows.length-2) (rowF inner (rows.length-1)+(rows.getLastD []).length)+1)
 else max (max 1 (atF inner rows (rows.length-2) (rowF inner (rows.length-1)+(rows.getLastD []).length)+1)) ((rows.getLastD []).getLastD 0)
def full (inner outer:List Int) (rows:List (List Int)):Bool:=rows.length=0 || rowF inner (rows.length-1)+(rows.getLastD []).length=rowF outer (rows.length-1)
def addX (rows:List (List Int)) (x:Int):List (List Int):=rows.dropLast++[rows.getLastD []++[x]]
def catX {A:Type} (g:Int→List A):Nat→Int→List A
 | 0,_=>[]
 | c+1,x=>g x++catX g c (x+1)
def useX {A:Type} (left:List Int) (nul:Bool) (x:Int) (g:List Int→List A):List A :=
 if nul then g left else if left.getD (x-1).toNat 0=0 then [] else g (left.set (x-1).toNat (left.getD (x-1).toNat 0-1))
def fil (inner outer:List Int) (most:Int) (nul:Bool):Nat→List Int→List (List Int)→List (List (List Int))
 | 0,_,_=>[]
 | n+1,left,rows =>
  if full inner outer rows then (if rows.length=outer.length then [rows] else fil inner outer most nul n left (rows++[[]]))
  else catX (fun x=>useX left nul x (fun l=>fil inner outer most nul n l (addX rows x))) (most+1-qcu inner rows).toNat (qcu inner rows)
structure preM (n:Nat) (inner outer left:List Int) (most:Int) (nul:Bool) (rows:List (List Int)):Prop where
 il:inner.length≤8
 ol:outer.length≤8
 i0:∀ i:Nat,0≤rowF inner i
 o8:∀ i:Nat,rowF outer i≤8
 od:∀ i:Nat,rowF outer (i+1:Nat)≤rowF outer i
 ins:∀ i:Nat,rowF inner i≤rowF outer i
 len:rows.length≤outer.length
 fl:∀ i:Nat,i+1<rows.length→rowF inner i+(rows.getD i []).length=rowF outer i
 la:∀ i:Nat,i+1=rows.length→rowF inner i+(rows.getD i []).length≤rowF outer i
 ent:∀ r∈rows,∀ x∈r,1≤x∧x≤most
 mo:0≤most∧most≤8
 lf:nul=false→left.length=most∧∀ x∈left,0≤x∧x≤8
 mu:9*(outer.length-rows.length)+(8-(rows.getLastD []).length)<n
abbrev P77:List TB:=[.cells [.v LI,.v LI,.slf 2 1,.v I64,.slf 3 1],.cells [.slf 4 1],.arr I64 true,.nest I64,.arr LLI true]
abbrev Q77:List TB:=[.cells [.v LI,.v LI,.slf 2 1,.v I64,.slf 5 1],.cells [.slf 6 1],.arr I64 true,.dead,.dead,.nest I64,.arr LLI true]
def preA (n:Nat) (inner outer left:List Int) (most:Int) (rows:List (List Int)) (out:List (List (List Int))):Prop:=preM n inner outer left most false rows∧out.length+(fil inner outer most false n left rows).length≤500000000
noncomputable def qmn (n:Nat):SCon:=mkS 77 [.ref 0 1 0 0,.fn 69 (.cons (.ref 1 1 0 0) .nil)] P77 [.v .bool] Q77 (fun (inner outer:List Int) (most:Int) (left:List Int) (rows:List (List Int)) (out:List (List (List Int)))=>[preA n inner outer left most rows out]) (fun (inner outer:List Int) (most:Int) (left:List Int) (rows:List (List Int)) (out:List (List (List Int)))=>(true,inner,outer,most,left,rows,out++fil inner outer most false n left rows,()))
def ms77:List Nat:=[900000,900001,62,63,1064,1065,1066,1067,1068,1069,1070,1071,1072,1073,1074,1075,1076,1077,1078,1079]
noncomputable def qmc (x0:List Int) (x4:List (List Int)):Int:=wr .i64 (rowF x0 (wr .i64 ((↑(List.length x4):Int)-1))+(↑(List.length (List.getD x4 (0+Int.toNat (wr .i64 ((↑(List.length x4):Int)-1))) ([]:List Int))):Int))
noncomputable def qyw (x0 x1:List Int) (x4:List (List Int)):Bool:=bif ilt (wr .i64 ((↑(List.length x4):Int)-1)) 0 then true else ieq (qmc x0 x4) (rowF x1 (wr .i64 ((↑(List.length x4):Int)-1)))
noncomputable def qxn (x0:List Int) (x4:List (List Int)):Int:=atF x0 (List.take (List.length x4) (List.drop 0 x4)) (wr .i64 (wr .i64 ((↑(List.length x4):Int)-1)-1)) (qmc x0 x4)
noncomputable def q2z (x4:List (List Int)):Bool:=ilt 0 (↑(List.length (List.getD x4 (0+Int.toNat (wr .i64 ((↑(List.length x4):Int)-1))) ([]:List Int))):Int)
noncomputable def q41 (x0:List Int) (x4:List (List Int)):Int:=atF x0 (List.take (List.length x4) (List.drop 0 x4)) (wr .i64 ((↑(List.length x4):Int)-1)) (wr .i64 (qmc x0 x4-1))
noncomputable def qe4 (d7:Int×List Int×List Int×Int×List Int×List (List Int)×List (List (List Int))×Unit):Int:=wr .i64 (List.getD d7.2.2.2.2.1 (0+Int.toNat (wr .i64 (d7.1-1))) (0:Int)-1)
noncomputable def qnj (x4:List (List Int)) (d7:Int×List Int×List Int×Int×List Int×List (List Int)×List (List (List Int))×Unit):Int:=(↑(List.length (List.getD (List.set d7.2.2.2.2.2.1 (0+Int.toNat (wr .i64 ((↑(List.length x4):Int)-1))) (List.take (List.length (List.getD d7.2.2.2.2.2.1 (0+Int.toNat (wr .i64 ((↑(List.length x4):Int)-1))) ([]:List Int))) (List.getD d7.2.2.2.2.2.1 (0+Int.toNat (wr .i64 ((↑(List.length x4):Int)-1))) ([]:List Int))++d7.1::([]:List Int))) (0+Int.toNat (wr .i64 ((↑(List.length x4):Int)-1))) ([]:List Int))):Int)
noncomputable def qym (d7:Int×List Int×List Int×Int×List Int×List (List Int)×List (List (List Int))×Unit):Int:=List.getD (List.set d7.2.2.2.2.1 (0+Int.toNat (wr .i64 (d7.1-1))) (qe4 d7)) (0+Int.toNat (wr .i64 (d7.1-1))) 0
noncomputable def qe5 (d7:Int×List Int×List Int×Int×List Int×List (List Int)×List (List (List Int))×Unit):Int:=wr .i64 (List.getD d7.2.2.2.2.1 (0+Int.toNat (wr .i64 (d7.1-1))) (0:Int)-1)
noncomputable def qo7 (x4:List (List Int)) (d7:Int×List Int×List Int×Int×List Int×List (List Int)×List (List (List Int))×Unit):Int:=(↑(List.length (List.getD (List.set d7.2.2.2.2.2.1 (0+Int.toNat (wr .i64 ((↑(List.length x4):Int)-1))) (List.take (List.length (List.getD d7.2.2.2.2.2.1 (0+Int.toNat (wr .i64 ((↑(List.length x4):Int)-1))) ([]:List Int))) (List.getD d7.2.2.2.2.2.1 (0+Int.toNat (wr .i64 ((↑(List.length x4):Int)-1))) ([]:List Int))++d7.1::([]:List Int))) (0+Int.toNat (wr .i64 ((↑(List.length x4):Int)-1))) ([]:List Int))):Int)
noncomputable def qr7 (d7:Int×List Int×List Int×Int×List Int×List (List Int)×List (List (List Int))×Unit):Int:=List.getD (List.set d7.2.2.2.2.1 (0+Int.toNat (wr .i64 (d7.1-1))) (qe5 d7)) (0+Int.toNat (wr .i64 (d7.1-1))) 0
open List Int in
noncomputable def g77 (n:Nat) (x0 x1:List Int) (x2:Int) (x3:List Int) (x4:List (List Int)) (x5:List (List (List Int))):Option (Bool×List Int×List Int×Int×List Int×List (List Int)×List (List (List Int))×Unit):=gd ((!ilt (wr .i64 ((↑(length x4):Int)-1)) 0)=true→(!ilt (wr .i64 ((↑(length x4):Int)-1)) 0)=true) (gd ((!ilt (wr .i64 ((↑(length x4):Int)-1)) 0)=true→(!ilt (wr .i64 ((↑(length x4):Int)-1)) 0)=true) (gd ((!ilt (wr .i64 ((↑(length x4):Int)-1)) 0)=true→(!ilt (wr .i64 ((↑(length x4):Int)-1)) 0)=true) (gd ((!ilt (wr .i64 ((↑(length x4):Int)-1)) 0)=true→(!ilt (wr .i64 ((↑(length x4):Int)-1)) 0)=true∧(!ilt (wr .i64 ((↑(length x4):Int)-1)) 0)=true∧0≤wr .i64 ((↑(length x4):Int)-1)∧length x0≤1000) (gd ((!ilt (wr .i64 ((↑(length x4):Int)-1)) 0)=true→(!ilt (wr .i64 ((↑(length x4):Int)-1)) 0)=true) (gd ((!ilt (wr .i64 ((↑(length x4):Int)-1)) 0)=true→(!ilt (wr .i64 ((↑(length x4):Int)-1)) 0)=true) (gd ((!ilt (wr .i64 ((↑(length x4):Int)-1)) 0)=true→(!ilt (wr .i64 ((↑(length x4):Int)-1)) 0)=true) (gd ((!ilt (wr .i64 ((↑(length x4):Int)-1)) 0)=true→(!ilt (wr .i64 ((↑(length x4):Int)-1)) 0)=true∧(!ilt (wr .i64 ((↑(length x4):Int)-1)) 0)=true∧0≤wr .i64 ((↑(length x4):Int)-1)∧wr .i64 ((↑(length x4):Int)-1)<(↑(length x4):Int)) (gd ((!ilt (wr .i64 ((↑(length x4):Int)-1)) 0)=true→(!ilt (wr .i64 ((↑(length x4):Int)-1)) 0)=true∧0+toNat (wr .i64 ((↑(length x4):Int)-1))<length x4) (gd ((!ilt (wr .i64 ((↑(length x4):Int)-1)) 0)=true→(!ilt (wr .i64 ((↑(length x4):Int)-1)) 0)=true) (gd ((!ilt (wr .i64 ((↑(length x4):Int)-1)) 0)=true→(!ilt (wr .i64 ((↑(length x4):Int)-1)) 0)=true∧(!ilt (wr .i64 ((↑(length x4):Int)-1)) 0)=true) (gd ((!ilt (wr .i64 ((↑(length x4):Int)-1)) 0)=true→(!ilt (wr .i64 ((↑(length x4):Int)-1)) 0)=true) (gd ((!ilt (wr .i64 ((↑(length x4):Int)-1)) 0)=true→(!ilt (wr .i64 ((↑(length x4):Int)-1)) 0)=true) (gd ((!ilt (wr .i64 ((↑(length x4):Int)-1)) 0)=true→(!ilt (wr .i64 ((↑(length x4):Int)-1)) 0)=true) (gd ((!ilt (wr .i64 ((↑(length x4):Int)-1)) 0)=true→(!ilt (wr .i64 ((↑(length x4):Int)-1)) 0)=true∧(!ilt (wr .i64 ((↑(length x4):Int)-1)) 0)=true∧0≤wr .i64 ((↑(length x4):Int)-1)∧length x1≤1000) (gd ((!ilt (wr .i64 ((↑(length x4):Int)-1)) 0)=true→(!ilt (wr .i64 ((↑(length x4):Int)-1)) 0)=true∧(!ilt (wr .i64 ((↑(length x4):Int)-1)) 0)=true) (gd (ilt (wr .i64 ((↑(length x4):Int)-1)) 0=false→(!ilt (wr .i64 ((↑(length x4):Int)-1)) 0)=true) (bif qyw x0 x1 x4 then bif ieq (wr .i64 (wr .i64 ((↑(length x4):Int)-1)+1)) (↑(length x1):Int) then gd (length x4=length x4) (gd (length x5=length x5) (gd ((length x4≤1000∧∀ (x7:List Int),List.Mem x7 x4→length x7≤1000)∧length x5≤1000000000) (gd (length x3=length x3) (gd (length x4=length x4) (gd (length (x5++x4::([]:List (List (List Int))))=length (x5++x4::([]:List (List (List Int))))) (some ((true,x0,x1,x2,x3,x4,x5++x4::([]:List (List (List Int))),()):Bool×List Int×List Int×Int×List Int×List (List Int)×List (List (List Int))×Unit))))))) else gd ((0:Nat)=0) (gd (length x4≤length x4) (gd ((length x4+1)*(24:Nat)≤1099511627776) (gd (length x3=length x3) (gd (length x4+1=length (take (length x4) x4++([]:List Int)::([]:List (List Int)))) (gd (length x5=length x5) (gd (preA n x0 x1 x3 x2 (take (length x4) x4++([]:List Int)::([]:List (List Int))) x5) (gd (0≤wr .i64 (wr .i64 ((↑(length x4):Int)-1)+1)∧wr .i64 (wr .i64 ((↑(length x4):Int)-1)+1)≤(↑(length (take (length x4) x4++([]:List Int)::([]:List (List Int)))):Int)) (gd (length x3=length x3) (gd (toNat (wr .i64 (wr .i64 ((↑(length x4):Int)-1)+1))=length (take (toNat (wr .i64 (wr .i64 ((↑(length x4):Int)-1)+1))) (take (length x4) x4++([]:List Int)::([]:List (List Int))))) (gd (length (x5++fil x0 x1 x2 false n x3 (take (length x4) x4++([]:List Int)::([]:List (List Int))))=length (x5++fil x0 x1 x2 false n x3 (take (length x4) x4++([]:List Int)::([]:List (List Int))))) (some ((true,x0,x1,x2,x3,take (toNat (wr .i64 (wr .i64 ((↑(length x4):Int)-1)+1))) (take (length x4) x4++([]:List Int)::([]:List (List Int))),x5++fil x0 x1 x2 false n x3 (take (length x4) x4++([]:List Int)::([]:List (List Int))),()):Bool×List Int×List Int×Int×List Int×List (List Int)×List (List (List Int))×Unit)))))))))))) else gd (0≤wr .i64 ((↑(length x4):Int)-1)∧length x0≤1000) (gd (0≤wr .i64 ((↑(length x4):Int)-1)∧wr .i64 ((↑(length x4):Int)-1)<(↑(length x4):Int)) (gd (0+toNat (wr .i64 ((↑(length x4):Int)-1))<length x4) (gd (0+length x3≤length x3) (gd (0+length x4≤length x4) (gd (atP x0 (take (length x4) (drop 0 x4)) (wr .i64 (wr .i64 ((↑(length x4):Int)-1)-1)) (qmc x0 x4)) (gd (0≤wr .i64 ((↑(length x4):Int)-1)∧wr .i64 ((↑(length x4):Int)-1)<(↑(length x4):Int)) (gd (0+toNat (wr .i64 ((↑(length x4):Int)-1))<length x4) (bif q2z x4 then gd (0+length x3≤length x3) (gd (0+length x4≤length x4) (gd (atP x0 (take (length x4) (drop 0 x4)) (wr .i64 ((↑(length x4):Int)-1)) (wr .i64 (qmc x0 x4-1))) (gd (length x3=length x3) (gd (length x4=length x4) (gd (length x5=length x5) (qat (fun (d7:Int×List Int×List Int×Int×List Int×List (List Int)×List (List (List Int))×Unit)=>bif ile d7.1 d7.2.2.2.1 then gd (¬length d7.2.2.2.2.1=0) (gd (0≤wr .i64 (d7.1-1)∧wr .i64 (d7.1-1)<(↑(length d7.2.2.2.2.1):Int)) (gd (0+toNat (wr .i64 (d7.1-1))<length d7.2.2.2.2.1) (bif ieq (getD d7.2.2.2.2.1 (0+toNat (wr .i64 (d7.1-1))) 0) 0 then gd (length d7.2.2.2.2.1=length d7.2.2.2.2.1) (gd (length d7.2.2.2.2.2.1=length d7.2.2.2.2.2.1) (gd (length d7.2.2.2.2.2.2.1=length d7.2.2.2.2.2.2.1) (some (Lp.go ((wr .i64 (d7.1+1),d7.2.1,d7.2.2.1,d7.2.2.2.1,d7.2.2.2.2.1,d7.2.2.2.2.2.1,d7.2.2.2.2.2.2.1,()):Int×List Int×List Int×Int×List Int×List (List Int)×List (List (List Int))×Unit))))) else gd (0≤wr .i64 (d7.1-1)∧wr .i64 (d7.1-1)<(↑(length d7.2.2.2.2.1):Int)) (gd (0+toNat (wr .i64 (d7.1-1))<length d7.2.2.2.2.1) (gd (0≤wr .i64 (d7.1-1)∧wr .i64 (d7.1-1)<(↑(length d7.2.2.2.2.1):Int)) (gd (0+toNat (wr .i64 (d7.1-1))<length d7.2.2.2.2.1) (gd (0≤wr .i64 ((↑(length x4):Int)-1)∧wr .i64 ((↑(length x4):Int)-1)<(↑(length d7.2.2.2.2.2.1):Int)) (gd (0+toNat (wr .i64 ((↑(length x4):Int)-1))<length d7.2.2.2.2.2.1) (gd (0+toNat (wr .i64 ((↑(length x4):Int)-1))<length d7.2.2.2.2.2.1) (gd (length (getD d7.2.2.2.2.2.1 (0+toNat (wr .i64 ((↑(length x4):Int)-1))) ([]:List Int))≤length (getD d7.2.2.2.2.2.1 (0+toNat (wr .i64 ((↑(length x4):Int)-1))) ([]:List Int))) (gd ((length (getD d7.2.2.2.2.2.1 (0+toNat (wr .i64 ((↑(length x4):Int)-1))) ([]:List Int))+1)*(8:Nat)≤1099511627776) (gd (0≤wr .i64 ((↑(length x4):Int)-1)∧wr .i64 ((↑(length x4):Int)-1)<(↑(length d7.2.2.2.2.2.1):Int)) (gd (0+toNat (wr .i64 ((↑(length x4):Int)-1))<length (List.set d7.2.2.2.2.2.1 (0+toNat (wr .i64 ((↑(length x4):Int)-1))) (take (length (getD d7.2.2.2.2.2.1 (0+toNat (wr .i64 ((↑(length x4):Int)-1))) ([]:List Int))) (getD d7.2.2.2.2.2.1 (0+toNat (wr .i64 ((↑(length x4):Int)-1))) ([]:List Int))++d7.1::([]:List Int)))) (gd (0+toNat (wr .i64 ((↑(length x4):Int)-1))=0+toNat (wr .i64 ((↑(length x4):Int)-1))) (gd (0+toNat (wr .i64 ((↑(length x4):Int)-1))=0+toNat (wr .i64 ((↑(length x4):Int)-1))) (gd (length (getD d7.2.2.2.2.2.1 (0+toNat (wr .i64 ((↑(length x4):Int)-1))) ([]:List Int))+1=length (getD (List.set d7.2.2.2.2.2.1 (0+toNat (wr .i64 ((↑(length x4):Int)-1))) (take (length (getD d7.2.2.2.2.2.1 (0+toNat (wr .i64 ((↑(length x4):Int)-1))) ([]:List Int))) (getD d7.2.2.2.2.2.1 (0+toNat (wr .i64 ((↑(length x4):Int)-1))) ([]:List Int))++d7.1::([]:List Int))) (0+toNat (wr .i64 ((↑(length x4):Int)-1))) ([]:List Int))) (gd (length d7.2.2.2.2.1=length (List.set d7.2.2.2.2.1 (0+toNat (wr .i64 (d7.1-1))) (qe4 d7))) (gd (length d7.2.2.2.2.2.1=length (List.set d7.2.2.2.2.2.1 (0+toNat (wr .i64 ((↑(length x4):Int)-1))) (take (length (getD d7.2.2.2.2.2.1 (0+toNat (wr .i64 ((↑(length x4):Int)-1))) ([]:List Int))) (getD d7.2.2.2.2.2.1 (0+toNat (wr .i64 ((↑(length x4):Int)-1))) ([]:List Int))++d7.1::([]:List Int)))) (gd (length d7.2.2.2.2.2.2.1=length d7.2.2.2.2.2.2.1) (gd (preA n d7.2.1 d7.2.2.1 (List.set d7.2.2.2.2.1 (0+toNat (wr .i64 (d7.1-1))) (qe4 d7)) d7.2.2.2.1 (List.set d7.2.2.2.2.2.1 (0+toNat (wr .i64 ((↑(length x4):Int)-1))) (take (length (getD d7.2.2.2.2.2.1 (0+toNat (wr .i64 ((↑(length x4):Int)-1))) ([]:List Int))) (getD d7.2.2.2.2.2.1 (0+toNat (wr .i64 ((↑(length x4):Int)-1))) ([]:List Int))++d7.1::([]:List Int))) d7.2.2.2.2.2.2.1) (gd (0≤wr .i64 ((↑(length x4):Int)-1)∧wr .i64 ((↑(length x4):Int)-1)<(↑(length (List.set d7.2.2.2.2.2.1 (0+toNat (wr .i64 ((↑(length x4):Int)-1))) (take (length (getD d7.2.2.2.2.2.1 (0+toNat (wr .i64 ((↑(length x4):Int)-1))) ([]:List Int))) (getD d7.2.2.2.2.2.1 (0+toNat (wr .i64 ((↑(length x4):Int)-1))) ([]:List Int))++d7.1::([]:List Int)))):Int)) (gd (0+toNat (wr .i64 ((↑(length x4):Int)-1))<length (List.set d7.2.2.2.2.2.1 (0+toNat (wr .i64 ((↑(length x4):Int)-1))) (take (length (getD d7.2.2.2.2.2.1 (0+toNat (wr .i64 ((↑(length x4):Int)-1))) ([]:List Int))) (getD d7.2.2.2.2.2.1 (0+toNat (wr .i64 ((↑(length x4):Int)-1))) ([]:List Int))++d7.1::([]:List Int)))) (gd (0≤wr .i64 ((↑(length x4):Int)-1)∧wr .i64 ((↑(length x4):Int)-1)<(↑(length (List.set d7.2.2.2.2.2.1 (0+toNat (wr .i64 ((↑(length x4):Int)-1))) (take (length (getD d7.2.2.2.2.2.1 (0+toNat (wr .i64 ((↑(length x4):Int)-1))) ([]:List Int))) (getD d7.2.2.2.2.2.1 (0+toNat (wr .i64 ((↑(length x4):Int)-1))) ([]:List Int))++d7.1::([]:List Int)))):Int)) (gd (0+toNat (wr .i64 ((↑(length x4):Int)-1))<length (List.set d7.2.2.2.2.2.1 (0+toNat (wr .i64 ((↑(length x4):Int)-1))) (take (length (getD d7.2.2.2.2.2.1 (0+toNat (wr .i64 ((↑(length x4):Int)-1))) ([]:List Int))) (getD d7.2.2.2.2.2.1 (0+toNat (wr .i64 ((↑(length x4):Int)-1))) ([]:List Int))++d7.1::([]:List Int)))) (gd (0≤wr .i64 (qnj x4 d7-1)∧wr .i64 (qnj x4 d7-1)≤(↑(length (getD (List.set d7.2.2.2.2.2.1 (0+toNat (wr .i64 ((↑(length x4):Int)-1))) (take (length (getD d7.2.2.2.2.2.1 (0+toNat (wr .i64 ((↑(length x4):Int)-1))) ([]:List Int))) (getD d7.2.2.2.2.2.1 (0+toNat (wr .i64 ((↑(length x4):Int)-1))) ([]:List Int))++d7.1::([]:List Int))) (0+toNat (wr .i64 ((↑(length x4):Int)-1))) ([]:List Int))):Int)) (gd (0≤wr .i64 ((↑(length x4):Int)-1)∧wr .i64 ((↑(length x4):Int)-1)<(↑(length (List.set d7.2.2.2.2.2.1 (0+toNat (wr .i64 ((↑(length x4):Int)-1))) (take (length (getD d7.2.2.2.2.2.1 (0+toNat (wr .i64 ((↑(length x4):Int)-1))) ([]:List Int))) (getD d7.2.2.2.2.2.1 (0+toNat (wr .i64 ((↑(length x4):Int)-1))) ([]:List Int))++d7.1::([]:List Int)))):Int)) (gd (0+toNat (wr .i64 ((↑(length x4):Int)-1))<length (List.set d7.2.2.2.2.2.1 (0+toNat (wr .i64 ((↑(length x4):Int)-1))) (take (length (getD d7.2.2.2.2.2.1 (0+toNat (wr .i64 ((↑(length x4):Int)-1))) ([]:List Int))) (getD d7.2.2.2.2.2.1 (0+toNat (wr .i64 ((↑(length x4):Int)-1))) ([]:List Int))++d7.1::([]:List Int)))) (gd (0+toNat (wr .i64 ((↑(length x4):Int)-1))=0+toNat (wr .i64 ((↑(length x4):Int)-1))) (gd (toNat (wr .i64 (qnj x4 d7-1))≤length (getD (List.set d7.2.2.2.2.2.1 (0+toNat (wr .i64 ((↑(length x4):Int)-1))) (take (length (getD d7.2.2.2.2.2.1 (0+toNat (wr .i64 ((↑(length x4):Int)-1))) ([]:List Int))) (getD d7.2.2.2.2.2.1 (0+toNat (wr .i64 ((↑(length x4):Int)-1))) ([]:List Int))++d7.1::([]:List Int))) (0+toNat (wr .i64 ((↑(length x4):Int)-1))) ([]:List Int))) (gd (¬length (List.set d7.2.2.2.2.1 (0+toNat (wr .i64 (d7.1-1))) (qe4 d7))=0) (gd (0≤wr .i64 (d7.1-1)∧wr .i64 (d7.1-1)<(↑(length (List.set d7.2.2.2.2.1 (0+toNat (wr .i64 (d7.1-1))) (qe4 d7))):Int)) (gd (0+toNat (wr .i64 (d7.1-1))<length (List.set d7.2.2.2.2.1 (0+toNat (wr .i64 (d7.1-1))) (qe4 d7))) (gd (0≤wr .i64 (d7.1-1)∧wr .i64 (d7.1-1)<(↑(length (List.set d7.2.2.2.2.1 (0+toNat (wr .i64 (d7.1-1))) (qe4 d7))):Int)) (gd (0+toNat (wr .i64 (d7.1-1))<length (List.set d7.2.2.2.2.1 (0+toNat (wr .i64 (d7.1-1))) (qe4 d7))) (gd (length (List.set d7.2.2.2.2.1 (0+toNat (wr .i64 (d7.1-1))) (qe4 d7))=length (List.set (List.set d7.2.2.2.2.1 (0+toNat (wr .i64 (d7.1-1))) (qe4 d7)) (0+toNat (wr .i64 (d7.1-1))) (wr .i64 (qym d7+1)))) (gd (length (List.set d7.2.2.2.2.2.1 (0+toNat (wr .i64 ((↑(length x4):Int)-1))) (take (length (getD d7.2.2.2.2.2.1 (0+toNat (wr .i64 ((↑(length x4):Int)-1))) ([]:List Int))) (getD d7.2.2.2.2.2.1 (0+toNat (wr .i64 ((↑(length x4):Int)-1))) ([]:List Int))++d7.1::([]:List Int)))=length (List.set (List.set d7.2.2.2.2.2.1 (0+toNat (wr .i64 ((↑(length x4):Int)-1))) (take (length (getD d7.2.2.2.2.2.1 (0+toNat (wr .i64 ((↑(length x4):Int)-1))) ([]:List Int))) (getD d7.2.2.2.2.2.1 (0+toNat (wr .i64 ((↑(length x4):Int)-1))) ([]:List Int))++d7.1::([]:List Int))) (0+toNat (wr .i64 ((↑(length x4):Int)-1))) (take (toNat (wr .i64 (qnj x4 d7-1))) (getD (List.set d7.2.2.2.2.2.1 (0+toNat (wr .i64 ((↑(length x4):Int)-1))) (take (length (getD d7.2.2.2.2.2.1 (0+toNat (wr .i64 ((↑(length x4):Int)-1))) ([]:List Int))) (getD d7.2.2.2.2.2.1 (0+toNat (wr .i64 ((↑(length x4):Int)-1))) ([]:List Int))++d7.1::([]:List Int))) (0+toNat (wr .i64 ((↑(length x4):Int)-1))) ([]:List Int))))) (gd (length (d7.2.2.2.2.2.2.1++fil d7.2.1 d7.2.2.1 d7.2.2.2.1 false n (List.set d7.2.2.2.2.1 (0+toNat (wr .i64 (d7.1-1))) (qe4 d7)) (List.set d7.2.2.2.2.2.1 (0+toNat (wr .i64 ((↑(length x4):Int)-1))) (take (length (getD d7.2.2.2.2.2.1 (0+toNat (wr .i64 ((↑(length x4):Int)-1))) ([]:List Int))) (getD d7.2.2.2.2.2.1 (0+toNat (wr .i64 ((↑(length x4):Int)-1))) ([]:List Int))++d7.1::([]:List Int))))=length (d7.2.2.2.2.2.2.1++fil d7.2.1 d7.2.2.1 d7.2.2.2.1 false n (List.set d7.2.2.2.2.1 (0+toNat (wr .i64 (d7.1-1))) (qe4 d7)) (List.set d7.2.2.2.2.2.1 (0+toNat (wr .i64 ((↑(length x4):Int)-1))) (take (length (getD d7.2.2.2.2.2.1 (0+toNat (wr .i64 ((↑(length x4):Int)-1))) ([]:List Int))) (getD d7.2.2.2.2.2.1 (0+toNat (wr .i64 ((↑(length x4):Int)-1))) ([]:List Int))++d7.1::([]:List Int))))) (some (Lp.go ((wr .i64 (d7.1+1),d7.2.1,d7.2.2.1,d7.2.2.2.1,List.set (List.set d7.2.2.2.2.1 (0+toNat (wr .i64 (d7.1-1))) (qe4 d7)) (0+toNat (wr .i64 (d7.1-1))) (wr .i64 (qym d7+1)),List.set (List.set d7.2.2.2.2.2.1 (0+toNat (wr .i64 ((↑(length x4):Int)-1))) (take (length (getD d7.2.2.2.2.2.1 (0+toNat (wr .i64 ((↑(length x4):Int)-1))) ([]:List Int))) (getD d7.2.2.2.2.2.1 (0+toNat (wr .i64 ((↑(length x4):Int)-1))) ([]:List Int))++d7.1::([]:List Int))) (0+toNat (wr .i64 ((↑(length x4):Int)-1))) (take (toNat (wr .i64 (qnj x4 d7-1))) (getD (List.set d7.2.2.2.2.2.1 (0+toNat (wr .i64 ((↑(length x4):Int)-1))) (take (length (getD d7.2.2.2.2.2.1 (0+toNat (wr .i64 ((↑(length x4):Int)-1))) ([]:List Int))) (getD d7.2.2.2.2.2.1 (0+toNat (wr .i64 ((↑(length x4):Int)-1))) ([]:List Int))++d7.1::([]:List Int))) (0+toNat (wr .i64 ((↑(length x4):Int)-1))) ([]:List Int))),d7.2.2.2.2.2.2.1++fil d7.2.1 d7.2.2.1 d7.2.2.2.1 false n (List.set d7.2.2.2.2.1 (0+toNat (wr .i64 (d7.1-1))) (qe4 d7)) (List.set d7.2.2.2.2.2.1 (0+toNat (wr .i64 ((↑(length x4):Int)-1))) (take (length (getD d7.2.2.2.2.2.1 (0+toNat (wr .i64 ((↑(length x4):Int)-1))) ([]:List Int))) (getD d7.2.2.2.2.2.1 (0+toNat (wr .i64 ((↑(length x4):Int)-1))) ([]:List Int))++d7.1::([]:List Int))),()):Int×List Int×List Int×Int×List Int×List (List Int)×List (List (List Int))×Unit)))))))))))))))))))))))))))))))))))))))) else gd (length d7.2.2.2.2.1=length d7.2.2.2.2.1) (gd (length d7.2.2.2.2.2.1=length d7.2.2.2.2.2.1) (gd (length d7.2.2.2.2.2.2.1=length d7.2.2.2.2.2.2.1) (some (Lp.out ((true,d7.2.1,d7.2.2.1,d7.2.2.2.1,d7.2.2.2.2.1,d7.2.2.2.2.2.1,d7.2.2.2.2.2.2.1,()):Bool×List Int×List Int×Int×List Int×List (List Int)×List (List (List Int))×Unit)))))) ((imax (imax 1 (wr .i64 (qxn x0 x4+1))) (q41 x0 x4),x0,x1,x2,x3,x4,x5,()):Int×List Int×List Int×Int×List Int×List (List Int)×List (List (List Int))×Unit))))))) else gd (length x3=length x3) (gd (length x4=length x4) (gd (length x5=length x5) (qat (fun (d7:Int×List Int×List Int×Int×List Int×List (List Int)×List (List (List Int))×Unit)=>bif ile d7.1 d7.2.2.2.1 then gd (¬length d7.2.2.2.2.1=0) (gd (0≤wr .i64 (d7.1-1)∧wr .i64 (d7.1-1)<(↑(length d7.2.2.2.2.1):Int)) (gd (0+toNat (wr .i64 (d7.1-1))<length d7.2.2.2.2.1) (bif ieq (getD d7.2.2.2.2.1 (0+toNat (wr .i64 (d7.1-1))) 0) 0 then gd (length d7.2.2.2.2.1=length d7.2.2.2.2.1) (gd (length d7.2.2.2.2.2.1=length d7.2.2.2.2.2.1) (gd (length d7.2.2.2.2.2.2.1=length d7.2.2.2.2.2.2.1) (some (Lp.go ((wr .i64 (d7.1+1),d7.2.1,d7.2.2.1,d7.2.2.2.1,d7.2.2.2.2.1,d7.2.2.2.2.2.1,d7.2.2.2.2.2.2.1,()):Int×List Int×List Int×Int×List Int×List (List Int)×List (List (List Int))×Unit))))) else gd (0≤wr .i64 (d7.1-1)∧wr .i64 (d7.1-1)<(↑(length d7.2.2.2.2.1):Int)) (gd (0+toNat (wr .i64 (d7.1-1))<length d7.2.2.2.2.1) (gd (0≤wr .i64 (d7.1-1)∧wr .i64 (d7.1-1)<(↑(length d7.2.2.2.2.1):Int)) (gd (0+toNat (wr .i64 (d7.1-1))<length d7.2.2.2.2.1) (gd (0≤wr .i64 ((↑(length x4):Int)-1)∧wr .i64 ((↑(length x4):Int)-1)<(↑(length d7.2.2.2.2.2.1):Int)) (gd (0+toNat (wr .i64 ((↑(length x4):Int)-1))<length d7.2.2.2.2.2.1) (gd (0+toNat (wr .i64 ((↑(length x4):Int)-1))<length d7.2.2.2.2.2.1) (gd (length (getD d7.2.2.2.2.2.1 (0+toNat (wr .i64 ((↑(length x4):Int)-1))) ([]:List Int))≤length (getD d7.2.2.2.2.2.1 (0+toNat (wr .i64 ((↑(length x4):Int)-1))) ([]:List Int))) (gd ((length (getD d7.2.2.2.2.2.1 (0+toNat (wr .i64 ((↑(length x4):Int)-1))) ([]:List Int))+1)*(8:Nat)≤1099511627776) (gd (0≤wr .i64 ((↑(length x4):Int)-1)∧wr .i64 ((↑(length x4):Int)-1)<(↑(length d7.2.2.2.2.2.1):Int)) (gd (0+toNat (wr .i64 ((↑(length x4):Int)-1))<length (List.set d7.2.2.2.2.2.1 (0+toNat (wr .i64 ((↑(length x4):Int)-1))) (take (length (getD d7.2.2.2.2.2.1 (0+toNat (wr .i64 ((↑(length x4):Int)-1))) ([]:List Int))) (getD d7.2.2.2.2.2.1 (0+toNat (wr .i64 ((↑(length x4):Int)-1))) ([]:List Int))++d7.1::([]:List Int)))) (gd (0+toNat (wr .i64 ((↑(length x4):Int)-1))=0+toNat (wr .i64 ((↑(length x4):Int)-1))) (gd (0+toNat (wr .i64 ((↑(length x4):Int)-1))=0+toNat (wr .i64 ((↑(length x4):Int)-1))) (gd (length (getD d7.2.2.2.2.2.1 (0+toNat (wr .i64 ((↑(length x4):Int)-1))) ([]:List Int))+1=length (getD (List.set d7.2.2.2.2.2.1 (0+toNat (wr .i64 ((↑(length x4):Int)-1))) (take (length (getD d7.2.2.2.2.2.1 (0+toNat (wr .i64 ((↑(length x4):Int)-1))) ([]:List Int))) (getD d7.2.2.2.2.2.1 (0+toNat (wr .i64 ((↑(length x4):Int)-1))) ([]:List Int))++d7.1::([]:List Int))) (0+toNat (wr .i64 ((↑(length x4):Int)-1))) ([]:List Int))) (gd (length d7.2.2.2.2.1=length (List.set d7.2.2.2.2.1 (0+toNat (wr .i64 (d7.1-1))) (qe5 d7))) (gd (length d7.2.2.2.2.2.1=length (List.set d7.2.2.2.2.2.1 (0+toNat (wr .i64 ((↑(length x4):Int)-1))) (take (length (getD d7.2.2.2.2.2.1 (0+toNat (wr .i64 ((↑(length x4):Int)-1))) ([]:List Int))) (getD d7.2.2.2.2.2.1 (0+toNat (wr .i64 ((↑(length x4):Int)-1))) ([]:List Int))++d7.1::([]:List Int)))) (gd (length d7.2.2.2.2.2.2.1=length d7.2.2.2.2.2.2.1) (gd (preA n d7.2.1 d7.2.2.1 (List.set d7.2.2.2.2.1 (0+toNat (wr .i64 (d7.1-1))) (qe5 d7)) d7.2.2.2.1 (List.set d7.2.2.2.2.2.1 (0+toNat (wr .i64 ((↑(length x4):Int)-1))) (take (length (getD d7.2.2.2.2.2.1 (0+toNat (wr .i64 ((↑(length x4):Int)-1))) ([]:List Int))) (getD d7.2.2.2.2.2.1 (0+toNat (wr .i64 ((↑(length x4):Int)-1))) ([]:List Int))++d7.1::([]:List Int))) d7.2.2.2.2.2.2.1) (gd (0≤wr .i64 ((↑(length x4):Int)-1)∧wr .i64 ((↑(length x4):Int)-1)<(↑(length (List.set d7.2.2.2.2.2.1 (0+toNat (wr .i64 ((↑(length x4):Int)-1))) (take (length (getD d7.2.2.2.2.2.1 (0+toNat (wr .i64 ((↑(length x4):Int)-1))) ([]:List Int))) (getD d7.2.2.2.2.2.1 (0+toNat (wr .i64 ((↑(length x4):Int)-1))) ([]:List Int))++d7.1::([]:List Int)))):Int)) (gd (0+toNat (wr .i64 ((↑(length x4):Int)-1))<length (List.set d7.2.2.2.2.2.1 (0+toNat (wr .i64 ((↑(length x4):Int)-1))) (take (length (getD d7.2.2.2.2.2.1 (0+toNat (wr .i64 ((↑(length x4):Int)-1))) ([]:List Int))) (getD d7.2.2.2.2.2.1 (0+toNat (wr .i64 ((↑(length x4):Int)-1))) ([]:List Int))++d7.1::([]:List Int)))) (gd (0≤wr .i64 ((↑(length x4):Int)-1)∧wr .i64 ((↑(length x4):Int)-1)<(↑(length (List.set d7.2.2.2.2.2.1 (0+toNat (wr .i64 ((↑(length x4):Int)-1))) (take (length (getD d7.2.2.2.2.2.1 (0+toNat (wr .i64 ((↑(length x4):Int)-1))) ([]:List Int))) (getD d7.2.2.2.2.2.1 (0+toNat (wr .i64 ((↑(length x4):Int)-1))) ([]:List Int))++d7.1::([]:List Int)))):Int)) (gd (0+toNat (wr .i64 ((↑(length x4):Int)-1))<length (List.set d7.2.2.2.2.2.1 (0+toNat (wr .i64 ((↑(length x4):Int)-1))) (take (length (getD d7.2.2.2.2.2.1 (0+toNat (wr .i64 ((↑(length x4):Int)-1))) ([]:List Int))) (getD d7.2.2.2.2.2.1 (0+toNat (wr .i64 ((↑(length x4):Int)-1))) ([]:List Int))++d7.1::([]:List Int)))) (gd (0≤wr .i64 (qo7 x4 d7-1)∧wr .i64 (qo7 x4 d7-1)≤(↑(length (getD (List.set d7.2.2.2.2.2.1 (0+toNat (wr .i64 ((↑(length x4):Int)-1))) (take (length (getD d7.2.2.2.2.2.1 (0+toNat (wr .i64 ((↑(length x4):Int)-1))) ([]:List Int))) (getD d7.2.2.2.2.2.1 (0+toNat (wr .i64 ((↑(length x4):Int)-1))) ([]:List Int))++d7.1::([]:List Int))) (0+toNat (wr .i64 ((↑(length x4):Int)-1))) ([]:List Int))):Int)) (gd (0≤wr .i64 ((↑(length x4):Int)-1)∧wr .i64 ((↑(length x4):Int)-1)<(↑(length (List.set d7.2.2.2.2.2.1 (0+toNat (wr .i64 ((↑(length x4):Int)-1))) (take (length (getD d7.2.2.2.2.2.1 (0+toNat (wr .i64 ((↑(length x4):Int)-1))) ([]:List Int))) (getD d7.2.2.2.2.2.1 (0+toNat (wr .i64 ((↑(length x4):Int)-1))) ([]:List Int))++d7.1::([]:List Int)))):Int)) (gd (0+toNat (wr .i64 ((↑(length x4):Int)-1))<length (List.set d7.2.2.2.2.2.1 (0+toNat (wr .i64 ((↑(length x4):Int)-1))) (take (length (getD d7.2.2.2.2.2.1 (0+toNat (wr .i64 ((↑(length x4):Int)-1))) ([]:List Int))) (getD d7.2.2.2.2.2.1 (0+toNat (wr .i64 ((↑(length x4):Int)-1))) ([]:List Int))++d7.1::([]:List Int)))) (gd (0+toNat (wr .i64 ((↑(length x4):Int)-1))=0+toNat (wr .i64 ((↑(length x4):Int)-1))) (gd (toNat (wr .i64 (qo7 x4 d7-1))≤length (getD (List.set d7.2.2.2.2.2.1 (0+toNat (wr .i64 ((↑(length x4):Int)-1))) (take (length (getD d7.2.2.2.2.2.1 (0+toNat (wr .i64 ((↑(length x4):Int)-1))) ([]:List Int))) (getD d7.2.2.2.2.2.1 (0+toNat (wr .i64 ((↑(length x4):Int)-1))) ([]:List Int))++d7.1::([]:List Int))) (0+toNat (wr .i64 ((↑(length x4):Int)-1))) ([]:List Int))) (gd (¬length (List.set d7.2.2.2.2.1 (0+toNat (wr .i64 (d7.1-1))) (qe5 d7))=0) (gd (0≤wr .i64 (d7.1-1)∧wr .i64 (d7.1-1)<(↑(length (List.set d7.2.2.2.2.1 (0+toNat (wr .i64 (d7.1-1))) (qe5 d7))):Int)) (gd (0+toNat (wr .i64 (d7.1-1))<length (List.set d7.2.2.2.2.1 (0+toNat (wr .i64 (d7.1-1))) (qe5 d7))) (gd (0≤wr .i64 (d7.1-1)∧wr .i64 (d7.1-1)<(↑(length (List.set d7.2.2.2.2.1 (0+toNat (wr .i64 (d7.1-1))) (qe5 d7))):Int)) (gd (0+toNat (wr .i64 (d7.1-1))<length (List.set d7.2.2.2.2.1 (0+toNat (wr .i64 (d7.1-1))) (qe5 d7))) (gd (length (List.set d7.2.2.2.2.1 (0+toNat (wr .i64 (d7.1-1))) (qe5 d7))=length (List.set (List.set d7.2.2.2.2.1 (0+toNat (wr .i64 (d7.1-1))) (qe5 d7)) (0+toNat (wr .i64 (d7.1-1))) (wr .i64 (qr7 d7+1)))) (gd (length (List.set d7.2.2.2.2.2.1 (0+toNat (wr .i64 ((↑(length x4):Int)-1))) (take (length (getD d7.2.2.2.2.2.1 (0+toNat (wr .i64 ((↑(length x4):Int)-1))) ([]:List Int))) (getD d7.2.2.2.2.2.1 (0+toNat (wr .i64 ((↑(length x4):Int)-1))) ([]:List Int))++d7.1::([]:List Int)))=length (List.set (List.set d7.2.2.2.2.2.1 (0+toNat (wr .i64 ((↑(length x4):Int)-1))) (take (length (getD d7.2.2.2.2.2.1 (0+toNat (wr .i64 ((↑(length x4):Int)-1))) ([]:List Int))) (getD d7.2.2.2.2.2.1 (0+toNat (wr .i64 ((↑(length x4):Int)-1))) ([]:List Int))++d7.1::([]:List Int))) (0+toNat (wr .i64 ((↑(length x4):Int)-1))) (take (toNat (wr .i64 (qo7 x4 d7-1))) (getD (List.set d7.2.2.2.2.2.1 (0+toNat (wr .i64 ((↑(length x4):Int)-1))) (take (length (getD d7.2.2.2.2.2.1 (0+toNat (wr .i64 ((↑(length x4):Int)-1))) ([]:List Int))) (getD d7.2.2.2.2.2.1 (0+toNat (wr .i64 ((↑(length x4):Int)-1))) ([]:List Int))++d7.1::([]:List Int))) (0+toNat (wr .i64 ((↑(length x4):Int)-1))) ([]:List Int))))) (gd (length (d7.2.2.2.2.2.2.1++fil d7.2.1 d7.2.2.1 d7.2.2.2.1 false n (List.set d7.2.2.2.2.1 (0+toNat (wr .i64 (d7.1-1))) (qe5 d7)) (List.set d7.2.2.2.2.2.1 (0+toNat (wr .i64 ((↑(length x4):Int)-1))) (take (length (getD d7.2.2.2.2.2.1 (0+toNat (wr .i64 ((↑(length x4):Int)-1))) ([]:List Int))) (getD d7.2.2.2.2.2.1 (0+toNat (wr .i64 ((↑(length x4):Int)-1))) ([]:List Int))++d7.1::([]:List Int))))=length (d7.2.2.2.2.2.2.1++fil d7.2.1 d7.2.2.1 d7.2.2.2.1 false n (List.set d7.2.2.2.2.1 (0+toNat (wr .i64 (d7.1-1))) (qe5 d7)) (List.set d7.2.2.2.2.2.1 (0+toNat (wr .i64 ((↑(length x4):Int)-1))) (take (length (getD d7.2.2.2.2.2.1 (0+toNat (wr .i64 ((↑(length x4):Int)-1))) ([]:List Int))) (getD d7.2.2.2.2.2.1 (0+toNat (wr .i64 ((↑(length x4):Int)-1))) ([]:List Int))++d7.1::([]:List Int))))) (some (Lp.go ((wr .i64 (d7.1+1),d7.2.1,d7.2.2.1,d7.2.2.2.1,List.set (List.set d7.2.2.2.2.1 (0+toNat (wr .i64 (d7.1-1))) (qe5 d7)) (0+toNat (wr .i64 (d7.1-1))) (wr .i64 (qr7 d7+1)),List.set (List.set d7.2.2.2.2.2.1 (0+toNat (wr .i64 ((↑(length x4):Int)-1))) (take (length (getD d7.2.2.2.2.2.1 (0+toNat (wr .i64 ((↑(length x4):Int)-1))) ([]:List Int))) (getD d7.2.2.2.2.2.1 (0+toNat (wr .i64 ((↑(length x4):Int)-1))) ([]:List Int))++d7.1::([]:List Int))) (0+toNat (wr .i64 ((↑(length x4):Int)-1))) (take (toNat (wr .i64 (qo7 x4 d7-1))) (getD (List.set d7.2.2.2.2.2.1 (0+toNat (wr .i64 ((↑(length x4):Int)-1))) (take (length (getD d7.2.2.2.2.2.1 (0+toNat (wr .i64 ((↑(length x4):Int)-1))) ([]:List Int))) (getD d7.2.2.2.2.2.1 (0+toNat (wr .i64 ((↑(length x4):Int)-1))) ([]:List Int))++d7.1::([]:List Int))) (0+toNat (wr .i64 ((↑(length x4):Int)-1))) ([]:List Int))),d7.2.2.2.2.2.2.1++fil d7.2.1 d7.2.2.1 d7.2.2.2.1 false n (List.set d7.2.2.2.2.1 (0+toNat (wr .i64 (d7.1-1))) (qe5 d7)) (List.set d7.2.2.2.2.2.1 (0+toNat (wr .i64 ((↑(length x4):Int)-1))) (take (length (getD d7.2.2.2.2.2.1 (0+toNat (wr .i64 ((↑(length x4):Int)-1))) ([]:List Int))) (getD d7.2.2.2.2.2.1 (0+toNat (wr .i64 ((↑(length x4):Int)-1))) ([]:List Int))++d7.1::([]:List Int))),()):Int×List Int×List Int×Int×List Int×List (List Int)×List (List (List Int))×Unit)))))))))))))))))))))))))))))))))))))))) else gd (length d7.2.2.2.2.1=length d7.2.2.2.2.1) (gd (length d7.2.2.2.2.2.1=length d7.2.2.2.2.2.1) (gd (length d7.2.2.2.2.2.2.1=length d7.2.2.2.2.2.2.1) (some (Lp.out ((true,d7.2.1,d7.2.2.1,d7.2.2.2.1,d7.2.2.2.2.1,d7.2.2.2.2.2.1,d7.2.2.2.2.2.2.1,()):Bool×List Int×List Int×Int×List Int×List (List Int)×List (List (List Int))×Unit)))))) ((imax 1 (wr .i64 (qxn x0 x4+1)),x0,x1,x2,x3,x4,x5,()):Int×List Int×List Int×Int×List Int×List (List Int)×List (List (List Int))×Unit)))))))))))))))))))))))))))))
noncomputable def q8g:List LSh:=LSh.mk3 (((0,TV.ref (0) 1 0 0):Nat×TV)::((1,TV.fn (69) (TV.cons (TV.ref (1) 1 0 0) TV.nil)):Nat×TV)::((9,TV.v (Ty.int .i64)):Nat×TV)::([]:List (Nat×TV))) (TB.cells (TV.v (Ty.slice (Ty.int .i64))::TV.v (Ty.slice (Ty.int .i64))::TV.slf (2) (1)::TV.v (Ty.int .i64)::TV.slf (5) (1)::([]:List TV))::TB.cells (TV.slf (6) (1)::([]:List TV))::TB.arr (Ty.int .i64) true::TB.dead::TB.dead::TB.nest (Ty.int .i64)::TB.arr (Ty.slice (Ty.slice (Ty.int .i64))) true::([]:List TB)) (5)::([]:List LSh)
theorem qb4:Try.prog.follows .mixedOrders=true:=by kernel_rfl
theorem qli {P:Program} (c:SCon) (hcall:qbw P c.f=true) (h:allD (c.ins.flatMap TV.ts++tsB c.ibl) fun env=>∀ p,c.pre env=some p→¬ allP p):c.Ok P :=
 ⟨hcall,fun Γ w env p r vs em henv hpre hF hp hargs=>absurd hp (qj0 (K:=fun env=>∀ p,c.pre env=some p→¬ allP p) h henv p hpre)⟩
theorem qk9 {S X:Type} {step:S→Option (Lp S X)} (st:Nat→S) (n:Nat) (x:X) (hgo:∀ i,i<n→step (st i)=some (.go (st (i+1)))) (hout:step (st n)=some (.out x)):qat step (st 0)=some x:=by
  have key:∀ c i,i+c=n→qat step (st i)=some x:=by
    intro c
    induction c with
    | zero => intro i hi; have : i = n := by omega
              subst this;exact qa8 hout
    | succ c ih=>intro i hi;exact (qb9 (hgo i (by omega))).trans (ih (i+1) (by omega))
  exact key n 0 (by omega)
theorem q9x:qeb.goal Try.prog (spOf []) q05 [] lm30:=by
 have e:(∀ (l:List Int) (i:Int),(0≤i∧l.length≤1000)→g110 l i=some (rowF l i,()))=qeb.goal Try.prog (spOf []) q05 [] lm30:=by kernel_rfl
 rw [← e];rintro l i ⟨h,hl⟩;unfold g110 rowF
 by_cases hi:i<l.length
 ·rw [qfs (qak.2 hi),qab ⟨h,hi⟩,if_neg (by omega)]
 ·rw [qf6 (qag.2 (by omega)),if_neg (by omega)]
  simp [waa,wac (show l.length≤i.toNat by omega)]
theorem qv1:qeb.Ok Try.prog:=Con.of_goal qb4 okN qeb q9x
theorem zao:qmi.goal Try.prog (spOf [qeb]) q4c [] lm30:=by
 have e:(∀ (k:MkD) (i j:Int),atP k.1 k.2.2.2.2.1 i j→g111 k i j=some (atF k.1 k.2.2.2.2.1 i j,()))=qmi.goal Try.prog (spOf [qeb]) q4c [] lm30:=by kernel_rfl
 rw [← e];rintro ⟨inner,outer,left,most,rows,u⟩ i j ⟨hl,hi,hi2,hj,h⟩;simp only [] at *;unfold g111 atF;simp only []
 by_cases h0:i<0
 ·rw [qak.2 h0];simp [qac,h0]
 ·have h1:ilt i 0=false:=qag.2 (by omega)
  have h2:=h (by omega)
  by_cases hj2:j<rowF inner i
  ·rw [h1];simp [qac,h0,qak.2 hj2,hj2,hl,show 0≤i by omega]
  ·rw [h1,qag.2 (by omega)]
   have hw:wr .i64 (j-rowF inner i)=j-rowF inner i:=qam (by omega)
   simp only [hw,wbr];rw [if_neg (by omega)]
   simp only [wbh,imp_self,forall_const,and_self,qac,true_and,wbp]
   repeat rw [qab ⟨by omega,by omega⟩]
theorem za6:qmi.Ok Try.prog:=Con.of_goal qb4 (okC qv1 okN) qmi zao
theorem zav:qga.goal Try.prog (spOf []) q26 [5] lm30:=by
 have e:(∀ (l:List Int),l.length≤100000→g39s l=some (l,()))=qga.goal Try.prog (spOf []) q26 [5] lm30:=by kernel_rfl
 rw [← e];intro l hl;unfold g39s
 by_cases h:l.length=0
 ·have:l=[]:=List.length_eq_zero_iff.1 h;subst this;simp [qac,eqO,gd]
 ·simp [qac,eqO,h];rw [qab (by omega)]
theorem q1u:qga.Ok Try.prog:=SCon.of_goal qb4 okN okS0 qga zav
theorem zcw:qzz.goal Try.prog (spS [qga] []) q7m [900000,6] lm30:=by
 have e:(∀ (rows:List (List Int)),(rows.length≤1000∧∀ r∈rows,r.length≤1000)→g70 rows=some (rows,rows,()))=qzz.goal Try.prog (spS [qga] []) q7m [900000,6] lm30:=by kernel_rfl
 rw [← e];rintro rows ⟨h1,h2⟩;unfold g70;rw [qab rfl,qab rfl];refine qk9 (fun i=>((i:Int),rows,rows.take i,())) rows.length _ (fun i hlt=>?_) ?_
 ·have hr:=h2 _ (wav hlt);have h3:ilt (i:Int) (rows.length:Int)=true:=qak.2 (by omega)
  have h4:wr .i64 ((i:Int)+1)=((i+1:Nat):Int):=(qam (by omega)).trans (by omega)
  have h5:min i rows.length=i:=by omega
  simp only [h3,wbs,wbj,wad,h4,wao,h5,wae,wcb,waa,wab hlt,Option.getD_some,wbl];rw [qab ⟨by omega,by omega⟩,qab hlt]
  simp only [Nat.min_self,wbl,wae,qac,List.take_take,Nat.min_self,waf,wbf,wbm,wao,h5];rw [qab (by omega),qab (by omega)]
  rw [List.take_succ_eq_append_getElem hlt]
 ·simp [qac,ilt]
theorem ok70:qzz.Ok Try.prog:=SCon.of_goal qb4 okN (okS q1u okS0) qzz zcw
theorem zcm:q00.goal Try.prog (spS [qzz] []) q77 [900000] lm30:=by
 have e:(∀ (rows:List (List Int)) (out:List (List (List Int))),(okR rows∧out.length≤1000000000)→g69 rows out=some (true,rows,out++[rows],()))=q00.goal Try.prog (spS [qzz] []) q77 [900000] lm30:=by kernel_rfl
 rw [← e];rintro rows out ⟨h1,h2⟩;unfold g69;have h3:rows.length≤1000∧∀ (x2:List Int),List.Mem x2 rows→x2.length≤1000:=⟨h1.1,fun r hr=>h1.2 r hr⟩
 rw [qab rfl,qab h3,qab (wae _),qab (by omega)]
 simp [qac]
theorem ok69:q00.Ok Try.prog:=SCon.of_goal qb4 okN (okS ok70 okS0) q00 zcm
theorem qih {A:Type} (R:List A) (r d:A):(R++[r]).getLastD d=r:=by simp
theorem qa6 {A:Type} (R:List A) (r d:A):(R++[r]).getD R.length d=r:=by simp
theorem qc5 {A:Type} (R:List A) (r d:A) {i:Nat} (h:i<R.length):(R++[r]).getD i d=R.getD i d:=by
 simp [waa,wag h]
theorem qg7 {A:Type} (R:List A) (r y:A):(R++[r]).set R.length y=R++[y]:=by
 rw [List.set_append_right _ _ (wae _)];simp
theorem qc7 (R:List (List Int)) (r:List Int) (x:Int):addX (R++[r]) x=R++[r++[x]]:=by simp [addX]
theorem qin {inner outer:List Int} (R:List (List Int)) (r:List Int):full inner outer (R++[r])=decide (rowF inner R.length+r.length=rowF outer R.length):=by
 have:((R++[r]).length:Int)-1=R.length:=by simp
 unfold full;rw [this,qih];simp
namespace preM
variable {n:Nat} {inner outer left:List Int} {most:Int} {nul:Bool}
theorem open_ {rows:List (List Int)} (h:preM (n+1) inner outer left most nul rows) (hf:full inner outer rows=true) (hl:rows.length≠outer.length):preM n inner outer left most nul (rows++[[]]):=by
 refine { h with len:=?_,fl:=?_,la:=?_,ent:=?_,mu:=?_ }
 ·have:=h.len;simp;omega
 ·intro i hi;simp only [waf,wbf,wbm] at hi;rw [qc5 _ _ _ (by omega)]
  by_cases h1:i+1<rows.length
  ·exact h.fl i h1
  ·have h2:i=rows.length-1:=by omega
   have hne:rows≠[]:=fun e=>by subst e;simp at hi
   obtain ⟨R,r,rfl⟩:∃ R r,rows=R++[r]:=⟨rows.dropLast,rows.getLast hne,(List.dropLast_concat_getLast hne).symm⟩;rw [qin] at hf;have h3:i=R.length:=by simp at h2;exact h2
   subst h3;rw [qa6];exact of_decide_eq_true hf
 ·intro i hi;simp only [waf,wbf,wbm] at hi;have:i=rows.length:=by omega
  subst this;rw [qa6];simpa using h.ins rows.length
 ·intro r hr
  rcases List.mem_append.1 hr with h1 | h1
  ·exact h.ent r h1
  ·rw [List.mem_singleton.1 h1];intro x hx;cases hx
 ·have:=h.mu;have:=h.len;simp only [qih,waf,wbf,wbm];omega
theorem lt8 {R:List (List Int)} {r:List Int} (h:preM n inner outer left most nul (R++[r])) (hf:full inner outer (R++[r])=false):rowF inner R.length+r.length<rowF outer R.length:=by
 rw [qin] at hf;have h1:=of_decide_eq_false hf;have h2:=h.la R.length (by simp)
 rw [qa6] at h2;omega
theorem box {R:List (List Int)} {r:List Int} {x:Int} {left':List Int} (h:preM (n+1) inner outer left most nul (R++[r])) (hf:full inner outer (R++[r])=false) (hx:1≤x∧x≤most)
  (hl:nul=false→left'.length=most∧∀ x∈left',0≤x∧x≤8):preM n inner outer left' most nul (R++[r++[x]]):=by
 have hlt:=h.lt8 hf;refine { h with lf:=hl,len:=?_,fl:=?_,la:=?_,ent:=?_,mu:=?_ }
 ·have:=h.len;simpa using this
 ·intro i hi;simp only [waf,wbf,wbm] at hi;have:=h.fl i (by simpa using hi)
  rw [qc5 _ _ _ (by omega)] at this ⊢
  exact this
 ·intro i hi;simp only [waf,wbf,wbm] at hi;have:i=R.length:=by omega
  subst this;rw [qa6];simp only [waf,wbf,wbm];omega
 ·intro q hq
  rcases List.mem_append.1 hq with h1 | h1
  ·exact h.ent q (wb6 _ h1)
  ·rw [List.mem_singleton.1 h1];intro y hy
   rcases List.mem_append.1 hy with h2 | h2
   ·exact h.ent r (by simp) y h2
   ·rw [List.mem_singleton.1 h2];exact hx
 ·have h1:=h.mu;have h2:=h.i0 R.length;have h3:=h.o8 R.length;simp only [qih,waf,wbf,wbm] at h1 ⊢;omega
theorem capR {rows:List (List Int)} (h:preM n inner outer left most nul rows):rows.length≤8∧∀ r∈rows,r.length≤8:=by
 refine ⟨Nat.le_trans h.len h.ol,fun r hr=>?_⟩
 obtain ⟨i,hi,rfl⟩:=List.getElem_of_mem hr;have h0:=h.i0 i;have h8:=h.o8 i
 by_cases h1:i+1<rows.length
 ·have:=h.fl i h1;simp only [waa,wab hi,Option.getD_some] at this;omega
 ·have:=h.la i (by omega)
  simp only [waa,wab hi,Option.getD_some] at this;omega
end preM
theorem q8r {inner:List Int} {rows:List (List Int)} {most i j:Int} (hm:0≤most) (h:∀ r∈rows,∀ x∈r,1≤x∧x≤most):0≤atF inner rows i j∧atF inner rows i j≤most:=by
 unfold atF;split
 ·omega
 ·simp only [waa]
  cases h1:rows[i.toNat]? with
  | none=>simp;omega
  | some r =>
   simp only [Option.getD_some]
   cases h2:r[(j-rowF inner i).toNat]? with
   | none=>simp;omega
   | some x =>
    have:=h r (wb8 h1) x (wb8 h2);simp;omega
open Go Go.Ab Go.Proofs
theorem qg0 {S X σ A:Type} {step:S→Option (Lp S X)} (upd:σ→List A→σ) (P:σ→List A→Prop) (h0:∀ s,upd s []=s) (ha:∀ s a b,upd (upd s a) b=upd s (a++b)) (hP:∀ s a b,P s (a++b)→P s a∧P (upd s a) b) (mk:Int→σ→S) (fin:σ→X) (g:Int→List A) (lo most:Int)
  (hgo:∀ x s,lo≤x→x≤most→P s (g x)→step (mk x s)=some (.go (mk (x+1) (upd s (g x))))) (hout:∀ x s,most<x→step (mk x s)=some (.out (fin s))) :
  ∀ (c:Nat) (x:Int) (s:σ),lo≤x→c=(most+1-x).toNat→P s (catX g c x)→qat step (mk x s)=some (fin (upd s (catX g c x)))
 | 0,x,s,hx,hc,hp=>by rw [catX,h0];exact qa8 (hout x s (by omega))
 | c+1,x,s,hx,hc,hp=>by
  rw [catX] at hp ⊢;have h:=hP _ _ _ hp;rw [qb9 (hgo x s hx (by omega) h.1),qg0 upd P h0 ha hP mk fin g lo most hgo hout c (x+1) _ (by omega) (by omega) h.2,ha]
theorem qm2 {l:List Int} {p:Nat} (h:p<l.length):(l.set p (l.getD p 0-1)).set p ((l.set p (l.getD p 0-1)).getD p 0+1)=l:=by
 simp only [List.set_set];have:(l.set p (l.getD p 0-1)).getD p 0+1=l.getD p 0:=by simp [waa,wa5,h]
 rw [this];simp [waa,wab h]
theorem e77 (n:Nat):(∀ (inner outer:List Int) (most:Int) (left:List Int) (rows:List (List Int)) (out:List (List (List Int))),preA (n+1) inner outer left most rows out→g77 n inner outer most left rows out=some (true,inner,outer,most,left,rows,out++fil inner outer most false (n+1) left rows,()))=(qmn (n+1)).goal Try.prog (spS [q00,qmn n] [qeb,qmi]) q8g ms77 lm30:=by kernel_rfl
theorem qlz {a b:Int}:imax a b=max a b:=by unfold imax;split<;>omega
theorem zc4 (n:Nat):(qmn (n+1)).goal Try.prog (spS [q00,qmn n] [qeb,qmi]) q8g ms77 lm30:=by
 rw [← e77];rintro inner outer most left rows out ⟨hp,hb⟩;have hcap:=hp.capR;have hmo:=hp.mo;have hil:=hp.il;have hol:=hp.ol;have hw2:wr .i64 ((rows.length:Int)-1+1)=(rows.length:Int):=(qam (by omega)).trans (by omega)
 have hw1:wr .i64 ((rows.length:Int)-1)=(rows.length:Int)-1:=qam (by omega)
 unfold g77;simp only [hw1,hw2];have hn:(!ilt ((rows.length:Int)-1) 0)=true→0≤(rows.length:Int)-1:=fun h=>by
  by_cases h0:(rows.length:Int)-1<0
  ·rw [qak.2 h0] at h;cases h
  ·omega
 have hc1:qyw inner outer rows=full inner outer rows:=by
  rcases List.eq_nil_or_concat rows with rfl | ⟨R,r,rfl⟩
  ·have h0:ilt (wr .i64 (((([]:List (List Int)).length:Nat):Int)-1)) 0=true:=by decide
   unfold qyw;rw [h0];rfl
  ·rw [List.concat_eq_append] at *;rw [qin];unfold qyw qmc;simp only [hw1];have h1:(((R++[r]).length:Nat):Int)-1=R.length:=by simp
   rw [h1];have h2:ilt (R.length:Int) 0=false:=qag.2 (by omega)
   have h3:=hp.i0 R.length;have h4:=hp.o8 R.length;have h5:=hp.ins R.length;have h6:=hcap.2 r (by simp)
   rw [h2,wbr,wbj,wad,qa6,qam (by omega)]
   rfl
 simp only [imp_self,qac];rw [qab (by intro h;exact ⟨h,h,hn h,by omega⟩),qab (by intro h;exact ⟨h,h,hn h,by omega⟩),qab (by intro h;have:=hn h;exact ⟨h,by omega⟩),qab (by intro h;exact ⟨h,h⟩),qab (by intro h;exact ⟨h,h,hn h,by omega⟩),qab (by intro h;exact ⟨h,h⟩),qab (by intro h;simp [h]),hc1]
 cases hf:full inner outer rows with
 | true =>
  rw [wbs]
  by_cases hl:rows.length=outer.length
  ·have h1:ieq (rows.length:Int) (outer.length:Int)=true:=by rw [hl];exact qcb.2 rfl
   rw [h1,wbs];simp only [fil,hf,if_true,if_pos hl];rw [qab ⟨⟨by omega,fun r hr=>Nat.le_trans (hcap.2 r hr) (by omega)⟩,by omega⟩]
  ·have h1:ieq (rows.length:Int) (outer.length:Int)=false:=qa5.2 (by omega)
   have h2:preA n inner outer left most (rows++[[]]) out:=⟨hp.open_ hf hl,by simpa only [fil,hf,if_true,if_neg hl] using hb⟩
   simp only [h1,wbr,wbl,fil,hf,if_true,if_neg hl];rw [qab (wae _),qab (by omega),qab (by simp),qab h2,qab (by simp;omega),qab (by simp)]
   simp
 | false =>
  rw [wbr]
  rcases List.eq_nil_or_concat rows with rfl | ⟨R,r,rfl⟩
  ·simp [full] at hf
  simp only [List.concat_eq_append] at *;have hlen:(((R++[r]).length:Nat):Int)-1=R.length:=by simp
  simp only [hlen] at hw1 hn ⊢;have hR:(R++[r]).length=R.length+1:=by simp
  have hr8:=hcap.2 r (by simp)
  have hlt:=hp.lt8 hf;have hi0:=hp.i0 R.length;have ho8:=hp.o8 R.length;have hR8:R.length+1≤8:=by rw [← hR];exact hcap.1
  have hc0:qmc inner (R++[r])=rowF inner R.length+r.length:=by
   unfold qmc;rw [hlen,hw1,wbj,wad,qa6,qam (by omega)]
  have hw3:wr .i64 ((R.length:Int)-1)=(R.length:Int)-1:=qam (by omega)
  have hw4:wr .i64 (rowF inner R.length+r.length-1)=rowF inner R.length+r.length-1:=qam (by omega)
  have ha1:atP inner (R++[r]) ((R.length:Int)-1) (rowF inner R.length+r.length):=by
   refine ⟨by omega,by rw [hR];omega,by omega,by omega,fun h=>?_⟩
   have h1:=hp.fl (R.length-1) (by rw [hR];omega)
   have h2:(((R.length-1:Nat)):Int)=(R.length:Int)-1:=by omega
   rw [h2] at h1;have h3:=hp.i0 (R.length-1);have h4:=hp.o8 (R.length-1);have h5:=hp.od (R.length-1);have h6:((R.length-1+1:Nat):Int)=R.length:=by omega
   rw [h2] at h3 h4 h5;rw [h6] at h5;rw [show ((R.length:Int)-1).toNat=R.length-1 by omega]
   omega
  have ha2:r≠[]→atP inner (R++[r]) R.length (rowF inner R.length+r.length-1):=by
   intro hne;have:=List.length_pos_iff.2 hne;refine ⟨by omega,by rw [hR];omega,by omega,by omega,fun h=>?_⟩
   rw [wad,qa6];omega
  have hv2:r≠[]→atF inner (R++[r]) R.length (rowF inner R.length+r.length-1)=r.getLastD 0:=by
   intro hne;have:=List.length_pos_iff.2 hne;unfold atF;rw [if_neg (by omega),wad,qa6,show (rowF inner R.length+r.length-1-rowF inner R.length).toNat=r.length-1 by omega]
   rw [wb4,List.getLast?_eq_getElem?,waa]
  have hb1:=q8r (inner:=inner) (i:=(R.length:Int)-1) (j:=rowF inner R.length+r.length) hmo.1 hp.ent;have hc2:qxn inner (R++[r])=atF inner (R++[r]) ((R.length:Int)-1) (rowF inner R.length+r.length):=by
   unfold qxn;rw [wcb,wbl,hlen,hc0,qam (n:=(R.length:Int)) (by omega),hw3]
  have hc3:q2z (R++[r])=decide (r≠[]):=by
   unfold q2z;rw [hlen,qam (n:=(R.length:Int)) (by omega),wbj,wad,qa6]
   cases r<;>simp [ilt]
  have hc4:r≠[]→q41 inner (R++[r])=r.getLastD 0:=by
   intro hne;unfold q41;rw [wcb,wbl,hlen,hc0,qam (n:=(R.length:Int)) (by omega),hw4,hv2 hne]
  have hw5:wr .i64 (atF inner (R++[r]) ((R.length:Int)-1) (rowF inner R.length+r.length)+1)=atF inner (R++[r]) ((R.length:Int)-1) (rowF inner R.length+r.length)+1:=qam (by omega)
  have hlf:=hp.lf rfl;simp only [fil,hf] at hb ⊢;have hL:qcu inner (R++[r])=if r=[] then max 1 (atF inner (R++[r]) ((R.length:Int)-1) (rowF inner R.length+r.length)+1) else max (max 1 (atF inner (R++[r]) ((R.length:Int)-1) (rowF inner R.length+r.length)+1)) (r.getLastD 0):=by
   unfold qcu;rw [qih,show (((R++[r]).length:Nat):Int)-2=(R.length:Int)-1 by omega,hlen]
  have hL1:1≤qcu inner (R++[r]):=by rw [hL];split<;>omega
  simp only [wbb,if_false] at hb ⊢;simp only [hc0,hc2,hw3,hw4,hw5,hc3,wcb,wbl,wbj,wad,qab ha1];rw [qab ⟨by omega,by omega⟩,qab (by omega)]
  have hmem:∀ p:Nat,p<left.length→0≤left.getD p 0∧left.getD p 0≤8:=fun p hp=>by
   rw [waa,wab hp];exact hlf.2 _ (wav hp)
  have hpre:∀ (p:Nat) (s:List (List (List Int))),p<left.length→left.getD p 0≠0→s.length+(useX left false ((p:Int)+1) fun l=>fil inner outer most false n l (addX (R++[r]) ((p:Int)+1))).length≤500000000→preA n inner outer (left.set p (left.getD p 0-1)) most (R++[r++[(p:Int)+1]]) s:=by
   intro p s hp1 hp2 hs;have h1:=hmem p hp1;have e1:((p:Int)+1-1).toNat=p:=by omega
   simp only [useX,wbb,if_false,e1,if_neg hp2,qc7] at hs;refine ⟨hp.box hf ⟨by omega,by omega⟩ (fun _=>⟨by simpa using hlf.1,fun y hy=>?_⟩),hs⟩
   rcases List.mem_or_eq_of_mem_set hy with h2 | h2
   ·exact hlf.2 y h2
   ·omega
  rcases Decidable.em (r=[]) with hr | hr
  ·rw [decide_eq_false (by simp [hr]),wbr]
   rw [if_pos hr] at hL;rw [qlz,← hL];rw [qab (by omega),qab (wae _),qab (wae _),qab ⟨by omega,by omega⟩,qab (by omega)]
   refine qg0 (fun s b=>s++b) (fun s b=>s.length+b.length≤500000000) (fun s=>wci s) (fun s a b=>way s a b) (fun s a b h=>by simp only [waf] at h ⊢;omega)
    (fun x s=>(x,inner,outer,most,left,R++[r],s,())) (fun s=>(true,inner,outer,most,left,R++[r],s,())) (fun x=>useX left false x fun l=>fil inner outer most false n l (addX (R++[r]) x)) (qcu inner (R++[r])) most ?_ ?_ _ _ out (waw _) rfl hb
   ·intro x s hx1 hx2 hs;obtain ⟨p,rfl⟩:∃ p:Nat,x=(p:Int)+1:=⟨(x-1).toNat,by omega⟩
    have hpl:p<left.length:=by omega
    have hq:ile ((p:Int)+1) most=true:=qd9.2 hx2;have hx:wr .i64 ((p:Int)+1-1)=p:=(qam (by omega)).trans (by omega)
    have hx':wr .i64 ((p:Int)+1+1)=(p:Int)+1+1:=qam (by omega)
    have e1:((p:Int)+1-1).toNat=p:=by omega
    have hv:=hmem p hpl;simp only [hq,wbs,hx,hx',wad,qa6,qg7,hR,useX,wbb,if_false,e1,qc7];rw [qab (by omega),qab ⟨by omega,by omega⟩,qab (by omega)]
    by_cases h0:left.getD p 0=0
    ·rw [qcb.2 h0,wbs,if_pos h0,wci]
    ·rw [qa5.2 h0,wbr,if_neg h0];have hpr:=hpre p s hpl h0 hs;have h9:wr .i64 (left.getD p 0-1)=left.getD p 0-1:=qam (by omega)
     have h7:(left.set p (left.getD p 0-1)).getD p 0=left.getD p 0-1:=by simp [waa,wa5,hpl]
     have h8:wr .i64 (left.getD p 0-1+1)=left.getD p 0:=(qam (by omega)).trans (by omega)
     have h6:(left.set p (left.getD p 0-1)).set p (left.getD p 0)=left:=by
      have:=qm2 hpl
      rwa [h7,Int.sub_add_cancel] at this
     have h5:wr .i64 (((r.length+1:Nat):Int)-1)=r.length:=(qam (by omega)).trans (by omega)
     have h4:List.take r.length (r++[(p:Int)+1])=r:=by simp
     have h3:(R++[r++[(p:Int)+1]]).length=R.length+1:=by simp
     have h2:(r++[(p:Int)+1]).length=r.length+1:=by simp
     have q1:(0≤(p:Int)∧(p:Int)<(left.length:Int))=True:=eq_true ⟨by omega,by omega⟩
     have q2:(0≤(R.length:Int)∧(R.length:Int)<((R.length+1:Nat):Int))=True:=eq_true ⟨by omega,by omega⟩
     have q3:(left.length=0)=False:=eq_false (by omega)
     have q4:((r.length+1)*8≤1099511627776)=True:=eq_true (by omega)
     have q5:(0≤(r.length:Int)∧(r.length:Int)≤((r.length+1:Nat):Int))=True:=eq_true ⟨by omega,by omega⟩
     have h1:wr .i64 (((R.length+1:Nat):Int)-1)=R.length:=(qam (by omega)).trans (by omega)
     simp only [qe4,qnj,qym,qe5,qo7,qr7,hlen,hw1,hx,h1,wbl,h9,h7,h8,h6,h5,h4,h3,h2,hR,q1,q2,q3,q4,q5,wbj,wad,qa6,qg7,wak,Nat.lt_succ_self,wae,qac,not_false_eq_true,hpl,Nat.le_succ,qab hpr]
   ·intro x s hx;simp only [qdn.2 hx,wbr]
  ·rw [decide_eq_true hr,wbs,qab (ha2 hr)];rw [if_neg hr] at hL;rw [hc4 hr,qlz,qlz,← hL]
   repeat rw [qab (by omega)]
   repeat rw [qab ⟨by omega,by omega⟩]
   repeat rw [qab (by omega)]
   refine qg0 (fun s b=>s++b) (fun s b=>s.length+b.length≤500000000) (fun s=>wci s) (fun s a b=>way s a b) (fun s a b h=>by simp only [waf] at h ⊢;omega)
    (fun x s=>(x,inner,outer,most,left,R++[r],s,())) (fun s=>(true,inner,outer,most,left,R++[r],s,())) (fun x=>useX left false x fun l=>fil inner outer most false n l (addX (R++[r]) x)) (qcu inner (R++[r])) most ?_ ?_ _ _ out (waw _) rfl hb
   ·intro x s hx1 hx2 hs;obtain ⟨p,rfl⟩:∃ p:Nat,x=(p:Int)+1:=⟨(x-1).toNat,by omega⟩
    have hpl:p<left.length:=by omega
    have hq:ile ((p:Int)+1) most=true:=qd9.2 hx2;have hx:wr .i64 ((p:Int)+1-1)=p:=(qam (by omega)).trans (by omega)
    have hx':wr .i64 ((p:Int)+1+1)=(p:Int)+1+1:=qam (by omega)
    have e1:((p:Int)+1-1).toNat=p:=by omega
    have hv:=hmem p hpl;simp only [hq,wbs,hx,hx',wad,qa6,qg7,hR,useX,wbb,if_false,e1,qc7];rw [qab (by omega),qab ⟨by omega,by omega⟩,qab (by omega)]
    by_cases h0:left.getD p 0=0
    ·rw [qcb.2 h0,wbs,if_pos h0,wci]
    ·rw [qa5.2 h0,wbr,if_neg h0];have hpr:=hpre p s hpl h0 hs;have h9:wr .i64 (left.getD p 0-1)=left.getD p 0-1:=qam (by omega)
     have h7:(left.set p (left.getD p 0-1)).getD p 0=left.getD p 0-1:=by simp [waa,wa5,hpl]
     have h8:wr .i64 (left.getD p 0-1+1)=left.getD p 0:=(qam (by omega)).trans (by omega)
     have h6:(left.set p (left.getD p 0-1)).set p (left.getD p 0)=left:=by
      have:=qm2 hpl
      rwa [h7,Int.sub_add_cancel] at this
     have h5:wr .i64 (((r.length+1:Nat):Int)-1)=r.length:=(qam (by omega)).trans (by omega)
     have h4:List.take r.length (r++[(p:Int)+1])=r:=by simp
     have h3:(R++[r++[(p:Int)+1]]).length=R.length+1:=by simp
     have h2:(r++[(p:Int)+1]).length=r.length+1:=by simp
     have q1:(0≤(p:Int)∧(p:Int)<(left.length:Int))=True:=eq_true ⟨by omega,by omega⟩
     have q2:(0≤(R.length:Int)∧(R.length:Int)<((R.length+1:Nat):Int))=True:=eq_true ⟨by omega,by omega⟩
     have q3:(left.length=0)=False:=eq_false (by omega)
     have q4:((r.length+1)*8≤1099511627776)=True:=eq_true (by omega)
     have q5:(0≤(r.length:Int)∧(r.length:Int)≤((r.length+1:Nat):Int))=True:=eq_true ⟨by omega,by omega⟩
     have h1:wr .i64 (((R.length+1:Nat):Int)-1)=R.length:=(qam (by omega)).trans (by omega)
     simp only [qe4,qnj,qym,qe5,qo7,qr7,hlen,hw1,hx,h1,wbl,h9,h7,h8,h6,h5,h4,h3,h2,hR,q1,q2,q3,q4,q5,wbj,wad,qa6,qg7,wak,Nat.lt_succ_self,wae,qac,not_false_eq_true,hpl,Nat.le_succ,qab hpr]
   ·intro x s hx;simp only [qdn.2 hx,wbr]
theorem zbl:(qmn 0).Ok Try.prog:=qli _ (by kernel_rfl) (by
 have e:(∀ (inner outer:List Int) (most:Int) (left:List Int) (rows:List (List Int)) (out:List (List (List Int))) (p:List Prop),some [preA 0 inner outer left most rows out]=some p→¬ allP p)=(allD ((qmn 0).ins.flatMap TV.ts++tsB (qmn 0).ibl) fun env=>∀ p,(qmn 0).pre env=some p→¬ allP p):=by kernel_rfl
 rw [← e];intro inner outer most left rows out p hp hq;cases hp;exact absurd (Ab.allP_one.1 hq).1.mu (by omega))
theorem ok77:∀ n,(qmn n).Ok Try.prog
 | 0=>zbl
 | n+1=>SCon.of_goal qb4 (okC qv1 (okC za6 okN)) (okS ok69 (okS (ok77 n) okS0)) (qmn (n+1)) (zc4 n)
end Go.Schur
