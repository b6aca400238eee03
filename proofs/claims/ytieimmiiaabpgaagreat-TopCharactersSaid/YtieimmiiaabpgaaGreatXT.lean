/- Groups of permutations: contracts of the zfl functions. -/
import Derived.Test.YtieimmiiaabpgaaGreatPA
import Derived.Test.YtieimmiiaabpgaaGreatAV
import Derived.Test.YtieimmiiaabpgaaGreatXB
set_option linter.unusedVariables false
set_option linter.unusedSimpArgs false
set_option maxRecDepth 100000
namespace Go.Top
noncomputable section
open Go Go.Ab Go.Proofs Go.Schur
abbrev E5:=Int×Int×Int×Int×Int×Unit
abbrev P5:Ty:=arrT 5 I64
abbrev GT:Ty:=.prod I64 (.prod (.slice P5) (.prod (.map P5 I64) (.prod LLI (.prod LI (.prod LI (.prod I64 .unit))))))
abbrev GD:=Int×List E5×List (E5×Int)×List (List Int)×List Int×List Int×Int×Unit
abbrev z5:E5:=(0,0,0,0,0,())
abbrev tk5 (s:List Int):List Int:=s.getD 0 0::s.getD 1 0::s.getD 2 0::s.getD 3 0::s.getD 4 0::[]
abbrev fl5 (P:E5):List Int:=P.1::P.2.1::P.2.2.1::P.2.2.2.1::P.2.2.2.2.1::[]
abbrev tup5 (s:List Int):E5:=(s.getD 0 0,s.getD 1 0,s.getD 2 0,s.getD 3 0,s.getD 4 0,())
def b40z (R:Rk) (x0:List Int) (x1:Int):Option (Bool×Unit):=R.wh (fun (d2:Int×Int×Unit)=>bif ilt d2.2.1 (↑(List.length x0):Int) then R.gd ((0:Int)≤d2.2.1∧d2.2.1<(↑(List.length x0):Int)) (R.gd ((!ilt (List.getD x0 (Int.toNat d2.2.1) (0:Int)) (0:Int))=true→(!ilt (List.getD x0 (Int.toNat d2.2.1) (0:Int)) (0:Int))=true∧(!ilt (List.getD x0 (Int.toNat d2.2.1) (0:Int)) (0:Int))=true) (R.gd (ilt (List.getD x0 (Int.toNat d2.2.1) (0:Int)) (0:Int)=false→(!ilt (List.getD x0 (Int.toNat d2.2.1) (0:Int)) (0:Int))=true) (bif bif ilt (List.getD x0 (Int.toNat d2.2.1) (0:Int)) (0:Int) then true else ile x1 (List.getD x0 (Int.toNat d2.2.1) (0:Int)) then some (Lp.out ((false,()):Bool×Unit)) else R.gd ((0:Int)≤List.getD x0 (Int.toNat d2.2.1) (0:Int)) (some (Lp.go ((ior IntKind.i64 d2.1 (ishl IntKind.i64 (1:Int) (List.getD x0 (Int.toNat d2.2.1) (0:Int))),wr .i64 (d2.2.1+(1:Int)),()):Int×Int×Unit)))))) else R.gd (ieq (↑(List.length x0):Int) x1=true→ieq (↑(List.length x0):Int) x1=true∧(0:Int)≤x1) (R.gd (ieq (↑(List.length x0):Int) x1=true→ieq (↑(List.length x0):Int) x1=true) (R.gd (ieq (↑(List.length x0):Int) x1=true→ieq (↑(List.length x0):Int) x1=true∧ieq (↑(List.length x0):Int) x1=true) (R.gd (ieq (↑(List.length x0):Int) x1=true→ieq (↑(List.length x0):Int) x1=true) (some (Lp.out ((bif ieq (↑(List.length x0):Int) x1 then ieq d2.1 (wr .i64 (ishl IntKind.i64 (1:Int) x1-(1:Int))) else false,()):Bool×Unit))))))) (((0:Int),(0:Int),()):Int×Int×Unit)
def g40z (x0:List Int) (x1:Int):Option (Bool×Unit):=b40z rkO x0 x1
def q3x:List LSh:=LSh.mk (((5,TV.v (Ty.int .i64)):Nat×TV)::((10,TV.v (Ty.int .i64)):Nat×TV)::([]:List (Nat×TV))) ([]:List TB)::([]:List LSh)
def b41z (R:Rk) (x0 x1:E5):Option (E5×Unit):=R.gd ((5:Nat)≤(5:Nat)) (R.wh (fun (d2:Int×List Int×List Int×List Int×Unit)=>bif ilt d2.1 (5:Int) then R.gd ((0:Int)≤d2.1∧d2.1<(5:Int)) (R.gd ((0:Int)≤(@id Int (qit (5:Nat) (Ty.int .i64) ((x1:E5):E5) (Int.toNat d2.1)))∧(@id Int (qit (5:Nat) (Ty.int .i64) ((x1:E5):E5) (Int.toNat d2.1)))<(5:Int)) (R.gd ((0:Nat)+Int.toNat (@id Int (qit (5:Nat) (Ty.int .i64) ((x1:E5):E5) (Int.toNat d2.1)))*(1:Nat)<List.length d2.2.1) (R.gd ((0:Int)≤d2.1∧d2.1<(5:Int)) (R.gd ((0:Nat)+Int.toNat d2.1*(1:Nat)<List.length d2.2.2.2.1) (some (Lp.go ((wr .i64 (d2.1+(1:Int)),d2.2.1,d2.2.2.1,List.set d2.2.2.2.1 ((0:Nat)+Int.toNat d2.1*(1:Nat)) (List.getD d2.2.1 ((0:Nat)+Int.toNat (@id Int (qit (5:Nat) (Ty.int .i64) ((x1:E5):E5) (Int.toNat d2.1)))*(1:Nat)) (0:Int)),()):Int×List Int×List Int×List Int×Unit))))))) else R.gd ((5:Nat)≤List.length d2.2.2.2.1) (R.gd ((5:Nat)≤List.length d2.2.2.1) (R.gd ((5:Nat)≤List.length (setMany d2.2.2.1 (0:Nat) (tk5 d2.2.2.2.1))) (some (Lp.out ((((tup5 (setMany d2.2.2.1 (0:Nat) (tk5 d2.2.2.2.1))):E5),()):E5×Unit)))))) (((0:Int),x0.1::x0.2.1::x0.2.2.1::x0.2.2.2.1::x0.2.2.2.2.1::([]:List Int),(0:Int)::(0:Int)::(0:Int)::(0:Int)::(0:Int)::([]:List Int),(0:Int)::(0:Int)::(0:Int)::(0:Int)::(0:Int)::([]:List Int),()):Int×List Int×List Int×List Int×Unit))
def g41z (x0 x1:E5):Option (E5×Unit):=b41z rkO x0 x1
def qzq:List LSh:=LSh.mk (((2,TV.ref (0) 1 0 0):Nat×TV)::((4,TV.ref (1) 1 0 0):Nat×TV)::((5,TV.ref (2) 1 0 0):Nat×TV)::((9,TV.v (Ty.int .i64)):Nat×TV)::([]:List (Nat×TV))) (TB.arr (Ty.int .i64) false::TB.arr (Ty.int .i64) false::TB.arr (Ty.int .i64) false::([]:List TB))::([]:List LSh)
def b98z (R:Rk) (x0:Int):Option (Bool×Unit):=some ((!ieq x0 x0,()):Bool×Unit)
def g98z (x0:Int):Option (Bool×Unit):=b98z rkO x0
def q09:List LSh:=([]:List LSh)
def b76z (R:Rk) (x0:Int):Option (Bool×Unit):=R.wh (fun (d1:Int×Unit)=>bif ile (wr .i64 (d1.1*d1.1)) x0 then R.gd (d1.1≠(0:Int)) (bif ieq (Int.tmod x0 d1.1) (0:Int) then some (Lp.out ((false,()):Bool×Unit)) else some (Lp.go ((wr .i64 (d1.1+(1:Int)),()):Int×Unit))) else some (Lp.out ((ilt (1:Int) x0,()):Bool×Unit))) (((2:Int),()):Int×Unit)
def g76z (x0:Int):Option (Bool×Unit):=b76z rkO x0
def q0g:List LSh:=LSh.mk (((3,TV.v (Ty.int .i64)):Nat×TV)::([]:List (Nat×TV))) ([]:List TB)::([]:List LSh)
def b66z (R:Rk) (x0:Option GD) (x1:Int):Option (Int×Unit):=R.gd (Option.isSome x0=true) (R.gd ((Option.getD x0 (((0:Int),([]:List E5),([]:List (E5×Int)),([]:List (List Int)),([]:List Int),([]:List Int),(0:Int),()):GD)).2.2.2.2.2.2.1≠(0:Int)) (R.gd (Option.isSome x0=true) (R.gd (Option.isSome x0=true) (R.gd ((Option.getD x0 (((0:Int),([]:List E5),([]:List (E5×Int)),([]:List (List Int)),([]:List Int),([]:List Int),(0:Int),()):GD)).2.2.2.2.2.2.1≠(0:Int)) (some ((Int.tmod (wr .i64 (Int.tmod x1 (Option.getD x0 (((0:Int),([]:List E5),([]:List (E5×Int)),([]:List (List Int)),([]:List Int),([]:List Int),(0:Int),()):GD)).2.2.2.2.2.2.1+(Option.getD x0 (((0:Int),([]:List E5),([]:List (E5×Int)),([]:List (List Int)),([]:List Int),([]:List Int),(0:Int),()):GD)).2.2.2.2.2.2.1)) (Option.getD x0 (((0:Int),([]:List E5),([]:List (E5×Int)),([]:List (List Int)),([]:List Int),([]:List Int),(0:Int),()):GD)).2.2.2.2.2.2.1,()):Int×Unit))))))
def g66z (x0:Option GD) (x1:Int):Option (Int×Unit):=b66z rkO x0 x1
def q33:List LSh:=([]:List LSh)
def qq5 (R:Rk) (x0:Option GD) (d1:Int×List Int×Unit) (d2:Int×Int×List Int×Unit):Option (Lp (Int×Int×List Int×Unit) (Lp (Int×List Int×Unit) (List Int×Unit))):=bif ilt d2.2.1 (↑(List.length (List.take (Int.toNat (Option.getD x0 (((0:Int),([]:List E5),([]:List (E5×Int)),([]:List (List Int)),([]:List Int),([]:List Int),(0:Int),()):GD)).1) (fl5 (List.getD (Option.getD x0 (((0:Int),([]:List E5),([]:List (E5×Int)),([]:List (List Int)),([]:List Int),([]:List Int),(0:Int),()):GD)).2.1 (Int.toNat (List.getD (List.getD (Option.getD x0 (((0:Int),([]:List E5),([]:List (E5×Int)),([]:List (List Int)),([]:List Int),([]:List Int),(0:Int),()):GD)).2.2.2.1 (Int.toNat d1.1) ([]:List Int)) (0:Nat) (0:Int))) z5)))):Int) then R.gd ((0:Int)≤d2.2.1∧d2.2.1<(↑(List.length (List.take (Int.toNat (Option.getD x0 (((0:Int),([]:List E5),([]:List (E5×Int)),([]:List (List Int)),([]:List Int),([]:List Int),(0:Int),()):GD)).1) (fl5 (List.getD (Option.getD x0 (((0:Int),([]:List E5),([]:List (E5×Int)),([]:List (List Int)),([]:List Int),([]:List Int),(0:Int),()):GD)).2.1 (Int.toNat (List.getD (List.getD (Option.getD x0 (((0:Int),([]:List E5),([]:List (E5×Int)),([]:List (List Int)),([]:List Int),([]:List Int),(0:Int),()):GD)).2.2.2.1 (Int.toNat d1.1) ([]:List Int)) (0:Nat) (0:Int))) z5)))):Int)) (bif ieq d2.2.1 (List.getD (List.take (Int.toNat (Option.getD x0 (((0:Int),([]:List E5),([]:List (E5×Int)),([]:List (List Int)),([]:List Int),([]:List Int),(0:Int),()):GD)).1) (fl5 (List.getD (Option.getD x0 (((0:Int),([]:List E5),([]:List (E5×Int)),([]:List (List Int)),([]:List Int),([]:List Int),(0:Int),()):GD)).2.1 (Int.toNat (List.getD (List.getD (Option.getD x0 (((0:Int),([]:List E5),([]:List (E5×Int)),([]:List (List Int)),([]:List Int),([]:List Int),(0:Int),()):GD)).2.2.2.1 (Int.toNat d1.1) ([]:List Int)) (0:Nat) (0:Int))) z5))) (Int.toNat d2.2.1) (0:Int)) then R.gd (List.length d2.2.2.1=List.length d2.2.2.1) (some (Lp.go ((wr .i64 (d2.1+(1:Int)),wr .i64 (d2.2.1+(1:Int)),d2.2.2.1,()):Int×Int×List Int×Unit))) else R.gd (List.length d2.2.2.1=List.length d2.2.2.1) (some (Lp.go ((d2.1,wr .i64 (d2.2.1+(1:Int)),d2.2.2.1,()):Int×Int×List Int×Unit)))) else R.gd (List.length d2.2.2.1≤List.length d2.2.2.1) (R.gd ((List.length d2.2.2.1+(1:Nat))*(8:Nat)≤(1099511627776:Nat)) (R.gd (List.length d2.2.2.1+(1:Nat)=List.length (List.take (List.length d2.2.2.1) d2.2.2.1++d2.1::([]:List Int))) (some (Lp.out (Lp.go ((wr .i64 (d1.1+(1:Int)),List.take (List.length d2.2.2.1) d2.2.2.1++d2.1::([]:List Int),()):Int×List Int×Unit))))))
def b34z (R:Rk) (x0:Option GD):Option (List Int×Unit):=R.gd (Option.isSome x0=true) (R.gd ((0:Nat)=(0:Nat)) (R.wh (fun (d1:Int×List Int×Unit)=>bif ilt d1.1 (↑(List.length (Option.getD x0 (((0:Int),([]:List E5),([]:List (E5×Int)),([]:List (List Int)),([]:List Int),([]:List Int),(0:Int),()):GD)).2.2.2.1):Int) then R.gd ((0:Int)≤d1.1∧d1.1<(↑(List.length (Option.getD x0 (((0:Int),([]:List E5),([]:List (E5×Int)),([]:List (List Int)),([]:List Int),([]:List Int),(0:Int),()):GD)).2.2.2.1):Int)) (R.gd (Option.isSome x0=true) (R.gd ((0:Int)≤(0:Int)∧(0:Int)<(↑(List.length (List.getD (Option.getD x0 (((0:Int),([]:List E5),([]:List (E5×Int)),([]:List (List Int)),([]:List Int),([]:List Int),(0:Int),()):GD)).2.2.2.1 (Int.toNat d1.1) ([]:List Int))):Int)) (R.gd ((0:Int)≤List.getD (List.getD (Option.getD x0 (((0:Int),([]:List E5),([]:List (E5×Int)),([]:List (List Int)),([]:List Int),([]:List Int),(0:Int),()):GD)).2.2.2.1 (Int.toNat d1.1) ([]:List Int)) (0:Nat) (0:Int)∧List.getD (List.getD (Option.getD x0 (((0:Int),([]:List E5),([]:List (E5×Int)),([]:List (List Int)),([]:List Int),([]:List Int),(0:Int),()):GD)).2.2.2.1 (Int.toNat d1.1) ([]:List Int)) (0:Nat) (0:Int)<(↑(List.length (Option.getD x0 (((0:Int),([]:List E5),([]:List (E5×Int)),([]:List (List Int)),([]:List Int),([]:List Int),(0:Int),()):GD)).2.1):Int)) (R.gd (Option.isSome x0=true) (R.gd ((0:Int)≤(Option.getD x0 (((0:Int),([]:List E5),([]:List (E5×Int)),([]:List (List Int)),([]:List Int),([]:List Int),(0:Int),()):GD)).1∧(Option.getD x0 (((0:Int),([]:List E5),([]:List (E5×Int)),([]:List (List Int)),([]:List Int),([]:List Int),(0:Int),()):GD)).1≤(5:Int)) (R.gd (List.length d1.2.1=List.length d1.2.1) (R.wh (qq5 R x0 d1) (((0:Int),(0:Int),d1.2.1,()):Int×Int×List Int×Unit)))))))) else R.gd ((0:Nat)+List.length d1.2.1≤List.length d1.2.1) (some (Lp.out ((List.take (List.length d1.2.1) (List.drop (0:Nat) d1.2.1),()):List Int×Unit)))) (((0:Int),([]:List Int),()):Int×List Int×Unit)))
def g34z (x0:Option GD):Option (List Int×Unit):=b34z rkO x0
def q14:List LSh:=LSh.mk (((3,TV.slf (0) (1)):Nat×TV)::((14,TV.v (Ty.int .i64)):Nat×TV)::([]:List (Nat×TV))) (TB.arr (Ty.int .i64) true::([]:List TB))::LSh.mk (((3,TV.slf (0) (1)):Nat×TV)::((6,TV.v (Ty.int .i64)):Nat×TV)::((32,TV.v (Ty.int .i64)):Nat×TV)::([]:List (Nat×TV))) (TB.arr (Ty.int .i64) true::([]:List TB))::([]:List LSh)
def q3a (R:Rk) (x0 x1:Int):Option (Int×Int×Unit):=R.gd ((0:Int)≤(32:Int)) (R.gd ((0:Int)≤(32:Int)) (R.gd ((0:Int)≤(32:Int)) (R.gd ((0:Int)≤(32:Int)) (R.gd ((0:Int)≤(32:Int)) (some ((wr IntKind.u64 (wr IntKind.u64 (wr IntKind.u64 (ishr IntKind.u64 x0 (32:Int)*ishr IntKind.u64 x1 (32:Int))+ishr IntKind.u64 (wr IntKind.u64 (wr IntKind.u64 (ishr IntKind.u64 x0 (32:Int)*iand IntKind.u64 x1 (4294967295:Int))+ishr IntKind.u64 (wr IntKind.u64 (iand IntKind.u64 x0 (4294967295:Int)*iand IntKind.u64 x1 (4294967295:Int))) (32:Int))) (32:Int))+ishr IntKind.u64 (wr IntKind.u64 (iand IntKind.u64 (wr IntKind.u64 (wr IntKind.u64 (ishr IntKind.u64 x0 (32:Int)*iand IntKind.u64 x1 (4294967295:Int))+ishr IntKind.u64 (wr IntKind.u64 (iand IntKind.u64 x0 (4294967295:Int)*iand IntKind.u64 x1 (4294967295:Int))) (32:Int))) (4294967295:Int)+wr IntKind.u64 (iand IntKind.u64 x0 (4294967295:Int)*ishr IntKind.u64 x1 (32:Int)))) (32:Int)),wr IntKind.u64 (x0*x1),()):Int×Int×Unit))))))
def zee (x0 x1:Int):Option (Int×Int×Unit):=q3a rkO x0 x1
def qwb:List LSh:=([]:List LSh)
def b30z (R:Rk) (x0:List Int):Option (List Int×Unit):=R.gd (List.length x0=List.length x0) (R.wh (fun (d1:Int×Int×List Int×Unit)=>bif ilt d1.1 d1.2.1 then R.gd ((0:Int)≤d1.2.1∧d1.2.1<(↑(List.length d1.2.2.1):Int)) (R.gd ((0:Nat)+Int.toNat d1.2.1<List.length d1.2.2.1) (R.gd ((0:Int)≤d1.1∧d1.1<(↑(List.length d1.2.2.1):Int)) (R.gd ((0:Nat)+Int.toNat d1.1<List.length d1.2.2.1) (R.gd ((0:Int)≤d1.1∧d1.1<(↑(List.length d1.2.2.1):Int)) (R.gd ((0:Nat)+Int.toNat d1.1<List.length d1.2.2.1) (R.gd ((0:Int)≤d1.2.1∧d1.2.1<(↑(List.length d1.2.2.1):Int)) (R.gd ((0:Nat)+Int.toNat d1.2.1<List.length (List.set d1.2.2.1 ((0:Nat)+Int.toNat d1.1) (List.getD d1.2.2.1 ((0:Nat)+Int.toNat d1.2.1) (0:Int)))) (R.gd (List.length d1.2.2.1=List.length (List.set (List.set d1.2.2.1 ((0:Nat)+Int.toNat d1.1) (List.getD d1.2.2.1 ((0:Nat)+Int.toNat d1.2.1) (0:Int))) ((0:Nat)+Int.toNat d1.2.1) (List.getD d1.2.2.1 ((0:Nat)+Int.toNat d1.1) (0:Int)))) (some (Lp.go ((wr .i64 (d1.1+(1:Int)),wr .i64 (d1.2.1-(1:Int)),List.set (List.set d1.2.2.1 ((0:Nat)+Int.toNat d1.1) (List.getD d1.2.2.1 ((0:Nat)+Int.toNat d1.2.1) (0:Int))) ((0:Nat)+Int.toNat d1.2.1) (List.getD d1.2.2.1 ((0:Nat)+Int.toNat d1.1) (0:Int)),()):Int×Int×List Int×Unit))))))))))) else some (Lp.out ((d1.2.2.1,()):List Int×Unit))) (((0:Int),wr .i64 ((↑(List.length x0):Int)-(1:Int)),x0,()):Int×Int×List Int×Unit))
def g30z (x0:List Int):Option (List Int×Unit):=b30z rkO x0
def q1l:List LSh:=LSh.mk3 (((0,TV.slf (0) (1)):Nat×TV)::((2,TV.v (Ty.int .i64)):Nat×TV)::((3,TV.v (Ty.int .i64)):Nat×TV)::([]:List (Nat×TV))) (TB.arr (Ty.int .i64) true::([]:List TB)) (1)::([]:List LSh)
def b61z (R:Rk) (x0:List Int):Option (Int×Unit):=R.wh (fun (d1:Int×Unit)=>bif ilt d1.1 (↑(List.length x0):Int) then R.gd ((0:Int)≤d1.1∧d1.1<(↑(List.length x0):Int)) (bif !ieq (List.getD x0 (Int.toNat d1.1) (0:Int)) (0:Int) then some (Lp.out ((List.getD x0 (Int.toNat d1.1) (0:Int),()):Int×Unit)) else some (Lp.go ((wr .i64 (d1.1+(1:Int)),()):Int×Unit))) else some (Lp.out (((0:Int),()):Int×Unit))) (((0:Int),()):Int×Unit)
def g61z (x0:List Int):Option (Int×Unit):=b61z rkO x0
def qzg:List LSh:=LSh.mk (((8,TV.v (Ty.int .i64)):Nat×TV)::([]:List (Nat×TV))) ([]:List TB)::([]:List LSh)
def b22z (R:Rk) (x0 x1:List Int):Option (Bool×Unit):=bif !ieq (↑(List.length x0):Int) (↑(List.length x1):Int) then some ((false,()):Bool×Unit) else R.wh (fun (d2:Int×Unit)=>bif ilt d2.1 (↑(List.length x0):Int) then R.gd ((0:Int)≤d2.1∧d2.1<(↑(List.length x0):Int)) (R.gd ((0:Int)≤d2.1∧d2.1<(↑(List.length x1):Int)) (bif !ieq (List.getD x0 (Int.toNat d2.1) (0:Int)) (List.getD x1 (Int.toNat d2.1) (0:Int)) then some (Lp.out ((false,()):Bool×Unit)) else some (Lp.go ((wr .i64 (d2.1+(1:Int)),()):Int×Unit)))) else some (Lp.out ((true,()):Bool×Unit))) (((0:Int),()):Int×Unit)
def g22z (x0 x1:List Int):Option (Bool×Unit):=b22z rkO x0 x1
def q3c:List LSh:=LSh.mk (((13,TV.v (Ty.int .i64)):Nat×TV)::([]:List (Nat×TV))) ([]:List TB)::([]:List LSh)
def b11z (R:Rk) (x0:Int):Option (List (List Int)×Unit):=R.gd ((0:Nat)=(0:Nat)) (R.gd ((0:Nat)=(0:Nat)) (R.wh (fun (d1:Int×List Int×List Int×Unit)=>bif ilt d1.1 x0 then R.gd (x0≠(0:Int)) (R.gd (List.length d1.2.1≤List.length d1.2.1) (R.gd ((List.length d1.2.1+(1:Nat))*(8:Nat)≤(1099511627776:Nat)) (R.gd (List.length d1.2.2.1≤List.length d1.2.2.1) (R.gd ((List.length d1.2.2.1+(1:Nat))*(8:Nat)≤(1099511627776:Nat)) (R.gd (List.length d1.2.1+(1:Nat)=List.length (List.take (List.length d1.2.1) d1.2.1++Int.tmod (wr .i64 (d1.1+(1:Int))) x0::([]:List Int))) (R.gd (List.length d1.2.2.1+(1:Nat)=List.length (List.take (List.length d1.2.2.1) d1.2.2.1++d1.1::([]:List Int))) (some (Lp.go ((wr .i64 (d1.1+(1:Int)),List.take (List.length d1.2.1) d1.2.1++Int.tmod (wr .i64 (d1.1+(1:Int))) x0::([]:List Int),List.take (List.length d1.2.2.1) d1.2.2.1++d1.1::([]:List Int),()):Int×List Int×List Int×Unit))))))))) else bif ilt (1:Int) x0 then R.gd ((0:Int)≤(0:Int)∧(0:Int)<(↑(List.length d1.2.2.1):Int)) (R.gd ((0:Nat)<List.length d1.2.2.1) (R.gd ((0:Int)≤(1:Int)∧(1:Int)<(↑(List.length d1.2.2.1):Int)) (R.gd ((1:Nat)<List.length (List.set d1.2.2.1 (0:Nat) (1:Int))) (R.gd ((0:Nat)+List.length d1.2.1≤List.length d1.2.1) (R.gd ((0:Nat)+List.length d1.2.2.1≤List.length (List.set (List.set d1.2.2.1 (0:Nat) (1:Int)) (1:Nat) (0:Int))) (some (Lp.out ((List.take (List.length d1.2.1) (List.drop (0:Nat) d1.2.1)::List.take (List.length d1.2.2.1) (List.drop (0:Nat) (List.set (List.set d1.2.2.1 (0:Nat) (1:Int)) (1:Nat) (0:Int)))::([]:List (List Int)),()):List (List Int)×Unit)))))))) else R.gd ((0:Nat)+List.length d1.2.1≤List.length d1.2.1) (R.gd ((0:Nat)+List.length d1.2.2.1≤List.length d1.2.2.1) (some (Lp.out ((List.take (List.length d1.2.1) (List.drop (0:Nat) d1.2.1)::List.take (List.length d1.2.2.1) (List.drop (0:Nat) d1.2.2.1)::([]:List (List Int)),()):List (List Int)×Unit))))) (((0:Int),([]:List Int),([]:List Int),()):Int×List Int×List Int×Unit)))
def g11z (x0:Int):Option (List (List Int)×Unit):=b11z rkO x0
def q0k:List LSh:=LSh.mk (((3,TV.slf (0) (1)):Nat×TV)::((4,TV.slf (1) (1)):Nat×TV)::((7,TV.v (Ty.int .i64)):Nat×TV)::([]:List (Nat×TV))) (TB.arr (Ty.int .i64) true::TB.arr (Ty.int .i64) true::([]:List TB))::([]:List LSh)
def h40z (x0:List Int) (x1:Int):Option (Bool×Unit):=b40z (rkF 200) x0 x1
theorem zbv {n:Nat} (x0:List Int) (x1:Int):LeO (b40z (rkF n) x0 x1) (b40z rkO x0 x1):=by
 unfold b40z
 repeat' first | with_reducible exact qag | with_reducible refine qap ?_ | with_reducible refine qah ?_ ?_ | with_reducible refine qaj ?_ | with_reducible refine qan ?_ ?_ | (refine qao fun s=>?_;try dsimp only)
theorem zbi (x0:List Int) (x1:Int):LeO (h40z x0 x1) (g40z x0 x1):=zbv x0 x1
def qo6:Con:=mkC 40 [.d LI,.d I64] [.bool] (fun (x0:List Int) (x1:Int)=>[okO (h40z x0 x1)]) (fun (x0:List Int) (x1:Int)=>@getO ((Bool×Unit)) _ (h40z x0 x1))
theorem za2:qo6.goal Tryz.prog (spOf []) q3x [] lm30:=by
 have e:(∀ (x0:List Int) (x1:Int),okO (h40z x0 x1)→g40z x0 x1=some (getO (h40z x0 x1)))=qo6.goal Tryz.prog (spOf []) q3x [] lm30:=by kernel_rfl
 rw [← e];intro x0 x1 h;exact qaz (zbi x0 x1) h
theorem ze0:qo6.Ok Tryz.prog:=Con.of_goal mixed okN qo6 za2
def h41z (x0 x1:E5):Option (E5×Unit):=b41z (rkF 200) x0 x1
theorem q7q {n:Nat} (x0 x1:E5):LeO (b41z (rkF n) x0 x1) (b41z rkO x0 x1):=by
 unfold b41z
 repeat' first | with_reducible exact qag | with_reducible refine qap ?_ | with_reducible refine qah ?_ ?_ | with_reducible refine qaj ?_ | with_reducible refine qan ?_ ?_ | (refine qao fun s=>?_;try dsimp only)
theorem zae (x0 x1:E5):LeO (h41z x0 x1) (g41z x0 x1):=q7q x0 x1
def ql0:Con:=mkC 41 [.d P5,.d P5] [P5] (fun (x0 x1:E5)=>[okO (h41z x0 x1)]) (fun (x0 x1:E5)=>@getO ((E5×Unit)) _ (h41z x0 x1))
theorem q9t:ql0.goal Tryz.prog (spOf []) qzq [] lm30:=by
 have e:(∀ (x0 x1:E5),okO (h41z x0 x1)→g41z x0 x1=some (getO (h41z x0 x1)))=ql0.goal Tryz.prog (spOf []) qzq [] lm30:=by kernel_rfl
 rw [← e];intro x0 x1 h;exact qaz (zae x0 x1) h
theorem zeo:ql0.Ok Tryz.prog:=Con.of_goal mixed okN ql0 q9t
def h98z (x0:Int):Option (Bool×Unit):=b98z (rkF 200) x0
theorem q8r {n:Nat} (x0:Int):LeO (b98z (rkF n) x0) (b98z rkO x0):=by
 unfold b98z
 repeat' first | with_reducible exact qag | with_reducible refine qap ?_ | with_reducible refine qah ?_ ?_ | with_reducible refine qaj ?_ | with_reducible refine qan ?_ ?_ | (refine qao fun s=>?_;try dsimp only)
theorem zab (x0:Int):LeO (h98z x0) (g98z x0):=q8r x0
def qqe:Con:=mkC 98 [.d I64] [.bool] (fun (x0:Int)=>[okO (h98z x0)]) (fun (x0:Int)=>@getO ((Bool×Unit)) _ (h98z x0))
theorem q87:qqe.goal Tryz.prog (spOf []) q09 [] lm30:=by
 have e:(∀ (x0:Int),okO (h98z x0)→g98z x0=some (getO (h98z x0)))=qqe.goal Tryz.prog (spOf []) q09 [] lm30:=by kernel_rfl
 rw [← e];intro x0 h;exact qaz (zab x0) h
theorem zfr:qqe.Ok Tryz.prog:=Con.of_goal mixed okN qqe q87
def h76z (x0:Int):Option (Bool×Unit):=b76z (rkF 200) x0
theorem zct {n:Nat} (x0:Int):LeO (b76z (rkF n) x0) (b76z rkO x0):=by
 unfold b76z
 repeat' first | with_reducible exact qag | with_reducible refine qap ?_ | with_reducible refine qah ?_ ?_ | with_reducible refine qaj ?_ | with_reducible refine qan ?_ ?_ | (refine qao fun s=>?_;try dsimp only)
theorem q8y (x0:Int):LeO (h76z x0) (g76z x0):=zct x0
def qpf:Con:=mkC 76 [.d I64] [.bool] (fun (x0:Int)=>[okO (h76z x0)]) (fun (x0:Int)=>@getO ((Bool×Unit)) _ (h76z x0))
theorem q86:qpf.goal Tryz.prog (spOf []) q0g [] lm30:=by
 have e:(∀ (x0:Int),okO (h76z x0)→g76z x0=some (getO (h76z x0)))=qpf.goal Tryz.prog (spOf []) q0g [] lm30:=by kernel_rfl
 rw [← e];intro x0 h;exact qaz (q8y x0) h
theorem zfa:qpf.Ok Tryz.prog:=Con.of_goal mixed okN qpf q86
def h66z (x0:Option GD) (x1:Int):Option (Int×Unit):=b66z (rkF 200) x0 x1
theorem zbc {n:Nat} (x0:Option GD) (x1:Int):LeO (b66z (rkF n) x0 x1) (b66z rkO x0 x1):=by
 unfold b66z
 repeat' first | with_reducible exact qag | with_reducible refine qap ?_ | with_reducible refine qah ?_ ?_ | with_reducible refine qaj ?_ | with_reducible refine qan ?_ ?_ | (refine qao fun s=>?_;try dsimp only)
theorem zbb (x0:Option GD) (x1:Int):LeO (h66z x0 x1) (g66z x0 x1):=zbc x0 x1
def qfs:Con:=mkC 66 [.d (.optr GT),.d I64] [I64] (fun (x0:Option GD) (x1:Int)=>[okO (h66z x0 x1)]) (fun (x0:Option GD) (x1:Int)=>@getO ((Int×Unit)) _ (h66z x0 x1))
theorem q8z:qfs.goal Tryz.prog (spOf []) q33 [] lm30:=by
 have e:(∀ (x0:Option GD) (x1:Int),okO (h66z x0 x1)→g66z x0 x1=some (getO (h66z x0 x1)))=qfs.goal Tryz.prog (spOf []) q33 [] lm30:=by kernel_rfl
 rw [← e];intro x0 x1 h;exact qaz (zbb x0 x1) h
theorem q2p:qfs.Ok Tryz.prog:=Con.of_goal mixed okN qfs q8z
theorem qxv {n:Nat} (x0:Option GD) (d1:Int×List Int×Unit) (d2:Int×Int×List Int×Unit):LeO (qq5 (rkF n) x0 d1 d2) (qq5 rkO x0 d1 d2):=by
 unfold qq5
 repeat' first | with_reducible exact qag | with_reducible apply q1n | with_reducible refine qap ?_ | with_reducible refine qah ?_ ?_ | with_reducible refine qaj ?_ | with_reducible refine qan ?_ ?_ | (refine qao fun s=>?_;try dsimp only)
def h34z (x0:Option GD):Option (List Int×Unit):=b34z (rkF 200) x0
theorem q1n {n:Nat} (x0:Option GD):LeO (b34z (rkF n) x0) (b34z rkO x0):=by
 unfold b34z
 repeat' first | with_reducible exact qag | with_reducible apply qxv | with_reducible refine qap ?_ | with_reducible refine qah ?_ ?_ | with_reducible refine qaj ?_ | with_reducible refine qan ?_ ?_ | (refine qao fun s=>?_;try dsimp only)
theorem zba (x0:Option GD):LeO (h34z x0) (g34z x0):=q1n x0
def qo9:Con:=mkC 34 [.d (.optr GT)] [LI] (fun (x0:Option GD)=>[okO (h34z x0)]) (fun (x0:Option GD)=>@getO ((List Int×Unit)) _ (h34z x0))
theorem q7y:qo9.goal Tryz.prog (spOf []) q14 [] lm30:=by
 have e:(∀ (x0:Option GD),okO (h34z x0)→g34z x0=some (getO (h34z x0)))=qo9.goal Tryz.prog (spOf []) q14 [] lm30:=by kernel_rfl
 rw [← e];intro x0 h;exact qaz (zba x0) h
theorem zev:qo9.Ok Tryz.prog:=Con.of_goal mixed okN qo9 q7y
def qst (x0 x1:Int):Option (Int×Int×Unit):=q3a (rkF 200) x0 x1
theorem q6l {n:Nat} (x0 x1:Int):LeO (q3a (rkF n) x0 x1) (q3a rkO x0 x1):=by
 unfold q3a
 repeat' first | with_reducible exact qag | with_reducible refine qap ?_ | with_reducible refine qah ?_ ?_ | with_reducible refine qaj ?_ | with_reducible refine qan ?_ ?_ | (refine qao fun s=>?_;try dsimp only)
theorem q6c (x0 x1:Int):LeO (qst x0 x1) (zee x0 x1):=q6l x0 x1
def qla:Con:=mkC 134 [.d (.int .u64),.d (.int .u64)] [.int .u64,.int .u64] (fun (x0 x1:Int)=>[okO (qst x0 x1)]) (fun (x0 x1:Int)=>@getO ((Int×Int×Unit)) _ (qst x0 x1))
theorem q4t:qla.goal Tryz.prog (spOf []) qwb [] lm30:=by
 have e:(∀ (x0 x1:Int),okO (qst x0 x1)→zee x0 x1=some (getO (qst x0 x1)))=qla.goal Tryz.prog (spOf []) qwb [] lm30:=by kernel_rfl
 rw [← e];intro x0 x1 h;exact qaz (q6c x0 x1) h
theorem zc2:qla.Ok Tryz.prog:=Con.of_goal mixed okN qla q4t
def h30z (x0:List Int):Option (List Int×Unit):=b30z (rkF 200) x0
theorem za4 {n:Nat} (x0:List Int):LeO (b30z (rkF n) x0) (b30z rkO x0):=by
 unfold b30z
 repeat' first | with_reducible exact qag | with_reducible refine qap ?_ | with_reducible refine qah ?_ ?_ | with_reducible refine qaj ?_ | with_reducible refine qan ?_ ?_ | (refine qao fun s=>?_;try dsimp only)
theorem zbt (x0:List Int):LeO (h30z x0) (g30z x0):=za4 x0
def qo2:SCon:=mkS 30 [.slf 0 1] [.arr I64 true] [] [.arr I64 true] (fun (x0:List Int)=>[okO (h30z x0)]) (fun (x0:List Int)=>@getO ((List Int×Unit)) _ (h30z x0))
theorem zbr:qo2.goal Tryz.prog (spS [] []) q1l [] lm30:=by
 have e:(∀ (x0:List Int),okO (h30z x0)→g30z x0=some (getO (h30z x0)))=qo2.goal Tryz.prog (spS [] []) q1l [] lm30:=by kernel_rfl
 rw [← e];intro x0 h;exact qaz (zbt x0) h
theorem ze1:qo2.Ok Tryz.prog:=SCon.of_goal mixed okN okS0 qo2 zbr
def h61z (x0:List Int):Option (Int×Unit):=b61z (rkF 200) x0
theorem zb7 {n:Nat} (x0:List Int):LeO (b61z (rkF n) x0) (b61z rkO x0):=by
 unfold b61z
 repeat' first | with_reducible exact qag | with_reducible refine qap ?_ | with_reducible refine qah ?_ ?_ | with_reducible refine qaj ?_ | with_reducible refine qan ?_ ?_ | (refine qao fun s=>?_;try dsimp only)
theorem zak (x0:List Int):LeO (h61z x0) (g61z x0):=zb7 x0
def qpw:Con:=mkC 61 [.d LI] [I64] (fun (x0:List Int)=>[okO (h61z x0)]) (fun (x0:List Int)=>@getO ((Int×Unit)) _ (h61z x0))
theorem za3:qpw.goal Tryz.prog (spOf []) qzg [] lm30:=by
 have e:(∀ (x0:List Int),okO (h61z x0)→g61z x0=some (getO (h61z x0)))=qpw.goal Tryz.prog (spOf []) qzg [] lm30:=by kernel_rfl
 rw [← e];intro x0 h;exact qaz (zak x0) h
theorem zez:qpw.Ok Tryz.prog:=Con.of_goal mixed okN qpw za3
def h22z (x0 x1:List Int):Option (Bool×Unit):=b22z (rkF 200) x0 x1
theorem q92 {n:Nat} (x0 x1:List Int):LeO (b22z (rkF n) x0 x1) (b22z rkO x0 x1):=by
 unfold b22z
 repeat' first | with_reducible exact qag | with_reducible refine qap ?_ | with_reducible refine qah ?_ ?_ | with_reducible refine qaj ?_ | with_reducible refine qan ?_ ?_ | (refine qao fun s=>?_;try dsimp only)
theorem q7s (x0 x1:List Int):LeO (h22z x0 x1) (g22z x0 x1):=q92 x0 x1
def qlq:Con:=mkC 22 [.d LI,.d LI] [.bool] (fun (x0 x1:List Int)=>[okO (h22z x0 x1)]) (fun (x0 x1:List Int)=>@getO ((Bool×Unit)) _ (h22z x0 x1))
theorem zcl:qlq.goal Tryz.prog (spOf []) q3c [] lm30:=by
 have e:(∀ (x0 x1:List Int),okO (h22z x0 x1)→g22z x0 x1=some (getO (h22z x0 x1)))=qlq.goal Tryz.prog (spOf []) q3c [] lm30:=by kernel_rfl
 rw [← e];intro x0 x1 h;exact qaz (q7s x0 x1) h
theorem zc7:qlq.Ok Tryz.prog:=Con.of_goal mixed okN qlq zcl
def h11z (x0:Int):Option (List (List Int)×Unit):=b11z (rkF 200) x0
theorem zcc {n:Nat} (x0:Int):LeO (b11z (rkF n) x0) (b11z rkO x0):=by
 unfold b11z
 repeat' first | with_reducible exact qag | with_reducible refine qap ?_ | with_reducible refine qah ?_ ?_ | with_reducible refine qaj ?_ | with_reducible refine qan ?_ ?_ | (refine qao fun s=>?_;try dsimp only)
theorem q9o (x0:Int):LeO (h11z x0) (g11z x0):=zcc x0
def qp4:Con:=mkC 11 [.d I64] [LLI] (fun (x0:Int)=>[okO (h11z x0)]) (fun (x0:Int)=>@getO ((List (List Int)×Unit)) _ (h11z x0))
theorem zb1:qp4.goal Tryz.prog (spOf []) q0k [7010003,7010004] lm30:=by
 have e:(∀ (x0:Int),okO (h11z x0)→g11z x0=some (getO (h11z x0)))=qp4.goal Tryz.prog (spOf []) q0k [7010003,7010004] lm30:=by kernel_rfl
 rw [← e];intro x0 h;exact qaz (q9o x0) h
theorem zet:qp4.Ok Tryz.prog:=Con.of_goal mixed okN qp4 zb1
def b62z (R:Rk) (x0 x1:Int):Option (Int×Unit):=R.gd (okO (h98z x0)) (R.gd (okO (h98z x1)) (bif (getO (h98z x0)).1 then bif (getO (h98z x1)).1 then some (((0:Int),()):Int×Unit) else some (((-1:Int),()):Int×Unit) else bif (getO (h98z x1)).1 then some (((1:Int),()):Int×Unit) else bif ilt x0 x1 then some (((-1:Int),()):Int×Unit) else bif ilt x1 x0 then some (((1:Int),()):Int×Unit) else some (((0:Int),()):Int×Unit)))
def g62z (x0 x1:Int):Option (Int×Unit):=b62z rkO x0 x1
def q1q:List LSh:=([]:List LSh)
def b72z (R:Rk) (x0:Option GD) (x1 x2:Int):Option (Int×Unit):=R.gd (Option.isSome x0=true) (R.gd (Option.isSome x0=true) (R.gd ((0:Int)≤x1∧x1<(↑(List.length (Option.getD x0 (((0:Int),([]:List E5),([]:List (E5×Int)),([]:List (List Int)),([]:List Int),([]:List Int),(0:Int),()):GD)).2.1):Int)) (R.gd (Option.isSome x0=true) (R.gd ((0:Int)≤x2∧x2<(↑(List.length (Option.getD x0 (((0:Int),([]:List E5),([]:List (E5×Int)),([]:List (List Int)),([]:List Int),([]:List Int),(0:Int),()):GD)).2.1):Int)) (R.gd (okO (h41z (List.getD (Option.getD x0 (((0:Int),([]:List E5),([]:List (E5×Int)),([]:List (List Int)),([]:List Int),([]:List Int),(0:Int),()):GD)).2.1 (Int.toNat x1) z5) (List.getD (Option.getD x0 (((0:Int),([]:List E5),([]:List (E5×Int)),([]:List (List Int)),([]:List Int),([]:List Int),(0:Int),()):GD)).2.1 (Int.toNat x2) z5))) (some ((Option.getD (α:=Int) (qdw P5 (Ty.int .i64) ((Option.getD x0 (((0:Int),([]:List E5),([]:List (E5×Int)),([]:List (List Int)),([]:List Int),([]:List Int),(0:Int),()):GD)).2.2.1:List (E5×Int)) ((getO (h41z (List.getD (Option.getD x0 (((0:Int),([]:List E5),([]:List (E5×Int)),([]:List (List Int)),([]:List Int),([]:List Int),(0:Int),()):GD)).2.1 (Int.toNat x1) z5) (List.getD (Option.getD x0 (((0:Int),([]:List E5),([]:List (E5×Int)),([]:List (List Int)),([]:List Int),([]:List Int),(0:Int),()):GD)).2.1 (Int.toNat x2) z5))).1:E5)) (0:Int),()):Int×Unit)))))))
def g72z (x0:Option GD) (x1 x2:Int):Option (Int×Unit):=b72z rkO x0 x1 x2
def q2u:List LSh:=([]:List LSh)
def b67z (R:Rk) (x0:Option GD) (x1:Int):Option (Int×Unit):=R.wh (fun (d2:Int×Unit)=>R.gd (okO (h66z x0 (wr .i64 (d2.1*x1)))) (bif !ieq (getO (h66z x0 (wr .i64 (d2.1*x1)))).1 (1:Int) then some (Lp.go ((wr .i64 (d2.1+(1:Int)),()):Int×Unit)) else some (Lp.out ((d2.1,()):Int×Unit)))) (((1:Int),()):Int×Unit)
def g67z (x0:Option GD) (x1:Int):Option (Int×Unit):=b67z rkO x0 x1
def q2t:List LSh:=LSh.mk (((5,TV.v (Ty.int .i64)):Nat×TV)::([]:List (Nat×TV))) ([]:List TB)::([]:List LSh)
def q1w (R:Rk) (x0 x1:Int):Option (Int×Int×Unit):=R.gd (okO (qst x0 x1)) (some (((getO (qst x0 x1)).1,(getO (qst x0 x1)).2.1,()):Int×Int×Unit))
def zc0 (x0 x1:Int):Option (Int×Int×Unit):=q1w rkO x0 x1
def qxd:List LSh:=([]:List LSh)
def h62z (x0 x1:Int):Option (Int×Unit):=b62z (rkF 200) x0 x1
theorem zas {n:Nat} (x0 x1:Int):LeO (b62z (rkF n) x0 x1) (b62z rkO x0 x1):=by
 unfold b62z
 repeat' first | with_reducible exact qag | with_reducible refine qap ?_ | with_reducible refine qah ?_ ?_ | with_reducible refine qaj ?_ | with_reducible refine qan ?_ ?_ | (refine qao fun s=>?_;try dsimp only)
theorem q9i (x0 x1:Int):LeO (h62z x0 x1) (g62z x0 x1):=zas x0 x1
def qig:Con:=mkC 62 [.d I64,.d I64] [I64] (fun (x0 x1:Int)=>[okO (h62z x0 x1)]) (fun (x0 x1:Int)=>@getO ((Int×Unit)) _ (h62z x0 x1))
theorem q8s:qig.goal Tryz.prog (spOf [qqe]) q1q [] lm30:=by
 have e:(∀ (x0 x1:Int),okO (h62z x0 x1)→g62z x0 x1=some (getO (h62z x0 x1)))=qig.goal Tryz.prog (spOf [qqe]) q1q [] lm30:=by kernel_rfl
 rw [← e];intro x0 x1 h;exact qaz (q9i x0 x1) h
theorem zcg:qig.Ok Tryz.prog:=Con.of_goal mixed (okC zfr okN) qig q8s
def h72z (x0:Option GD) (x1 x2:Int):Option (Int×Unit):=b72z (rkF 200) x0 x1 x2
theorem zcu {n:Nat} (x0:Option GD) (x1 x2:Int):LeO (b72z (rkF n) x0 x1 x2) (b72z rkO x0 x1 x2):=by
 unfold b72z
 repeat' first | with_reducible exact qag | with_reducible refine qap ?_ | with_reducible refine qah ?_ ?_ | with_reducible refine qaj ?_ | with_reducible refine qan ?_ ?_ | (refine qao fun s=>?_;try dsimp only)
theorem zaa (x0:Option GD) (x1 x2:Int):LeO (h72z x0 x1 x2) (g72z x0 x1 x2):=zcu x0 x1 x2
def qg0:Con:=mkC 72 [.d (.optr GT),.d I64,.d I64] [I64] (fun (x0:Option GD) (x1 x2:Int)=>[okO (h72z x0 x1 x2)]) (fun (x0:Option GD) (x1 x2:Int)=>@getO ((Int×Unit)) _ (h72z x0 x1 x2))
theorem q7z:qg0.goal Tryz.prog (spOf [ql0]) q2u [] lm30:=by
 have e:(∀ (x0:Option GD) (x1 x2:Int),okO (h72z x0 x1 x2)→g72z x0 x1 x2=some (getO (h72z x0 x1 x2)))=qg0.goal Tryz.prog (spOf [ql0]) q2u [] lm30:=by kernel_rfl
 rw [← e];intro x0 x1 x2 h;exact qaz (zaa x0 x1 x2) h
theorem q49:qg0.Ok Tryz.prog:=Con.of_goal mixed (okC zeo okN) qg0 q7z
def h67z (x0:Option GD) (x1:Int):Option (Int×Unit):=b67z (rkF 200) x0 x1
theorem zah {n:Nat} (x0:Option GD) (x1:Int):LeO (b67z (rkF n) x0 x1) (b67z rkO x0 x1):=by
 unfold b67z
 repeat' first | with_reducible exact qag | with_reducible refine qap ?_ | with_reducible refine qah ?_ ?_ | with_reducible refine qaj ?_ | with_reducible refine qan ?_ ?_ | (refine qao fun s=>?_;try dsimp only)
theorem zb5 (x0:Option GD) (x1:Int):LeO (h67z x0 x1) (g67z x0 x1):=zah x0 x1
def qir:Con:=mkC 67 [.d (.optr GT),.d I64] [I64] (fun (x0:Option GD) (x1:Int)=>[okO (h67z x0 x1)]) (fun (x0:Option GD) (x1:Int)=>@getO ((Int×Unit)) _ (h67z x0 x1))
theorem q9n:qir.goal Tryz.prog (spOf [qfs]) q2t [] lm30:=by
 have e:(∀ (x0:Option GD) (x1:Int),okO (h67z x0 x1)→g67z x0 x1=some (getO (h67z x0 x1)))=qir.goal Tryz.prog (spOf [qfs]) q2t [] lm30:=by kernel_rfl
 rw [← e];intro x0 x1 h;exact qaz (zb5 x0 x1) h
theorem q8f:qir.Ok Tryz.prog:=Con.of_goal mixed (okC q2p okN) qir q9n
def qbs (x0 x1:Int):Option (Int×Int×Unit):=q1w (rkF 200) x0 x1
theorem q56 {n:Nat} (x0 x1:Int):LeO (q1w (rkF n) x0 x1) (q1w rkO x0 x1):=by
 unfold q1w
 repeat' first | with_reducible exact qag | with_reducible refine qap ?_ | with_reducible refine qah ?_ ?_ | with_reducible refine qaj ?_ | with_reducible refine qan ?_ ?_ | (refine qao fun s=>?_;try dsimp only)
theorem q46 (x0 x1:Int):LeO (qbs x0 x1) (zc0 x0 x1):=q56 x0 x1
def qk7:Con:=mkC 110 [.d (.int .u64),.d (.int .u64)] [.int .u64,.int .u64] (fun (x0 x1:Int)=>[okO (qbs x0 x1)]) (fun (x0 x1:Int)=>@getO ((Int×Int×Unit)) _ (qbs x0 x1))
theorem q4s:qk7.goal Tryz.prog (spOf [qla]) qxd [] lm30:=by
 have e:(∀ (x0 x1:Int),okO (qbs x0 x1)→zc0 x0 x1=some (getO (qbs x0 x1)))=qk7.goal Tryz.prog (spOf [qla]) qxd [] lm30:=by kernel_rfl
 rw [← e];intro x0 x1 h;exact qaz (q46 x0 x1) h
theorem zd0:qk7.Ok Tryz.prog:=Con.of_goal mixed (okC zc2 okN) qk7 q4s
def b44z (R:Rk) (x0 x1:List Int):Option (Int×Unit):=R.wh (fun (d2:Int×Unit)=>bif ilt d2.1 (↑(List.length x0):Int) then R.gd ((0:Int)≤d2.1∧d2.1<(↑(List.length x0):Int)) (bif ile (↑(List.length x1):Int) d2.1 then some (Lp.out (((1:Int),()):Int×Unit)) else R.gd ((0:Int)≤d2.1∧d2.1<(↑(List.length x1):Int)) (R.gd (okO (h62z (List.getD x0 (Int.toNat d2.1) (0:Int)) (List.getD x1 (Int.toNat d2.1) (0:Int)))) (bif !ieq (getO (h62z (List.getD x0 (Int.toNat d2.1) (0:Int)) (List.getD x1 (Int.toNat d2.1) (0:Int)))).1 (0:Int) then some (Lp.out (((getO (h62z (List.getD x0 (Int.toNat d2.1) (0:Int)) (List.getD x1 (Int.toNat d2.1) (0:Int)))).1,()):Int×Unit)) else some (Lp.go ((wr .i64 (d2.1+(1:Int)),()):Int×Unit))))) else bif ilt (↑(List.length x0):Int) (↑(List.length x1):Int) then some (Lp.out (((-1:Int),()):Int×Unit)) else some (Lp.out (((0:Int),()):Int×Unit))) (((0:Int),()):Int×Unit)
def g44z (x0 x1:List Int):Option (Int×Unit):=b44z rkO x0 x1
def qz8:List LSh:=LSh.mk (((11,TV.v (Ty.int .i64)):Nat×TV)::([]:List (Nat×TV))) ([]:List TB)::([]:List LSh)
def b73z (R:Rk) (x0:Option GD) (x1:Int):Option (Int×Unit):=R.gd (Option.isSome x0=true) (R.wh (fun (d2:Int×Unit)=>bif ilt d2.1 (↑(List.length (Option.getD x0 (((0:Int),([]:List E5),([]:List (E5×Int)),([]:List (List Int)),([]:List Int),([]:List Int),(0:Int),()):GD)).2.1):Int) then R.gd (okO (h72z x0 x1 d2.1)) (bif ieq (getO (h72z x0 x1 d2.1)).1 (0:Int) then some (Lp.out ((d2.1,()):Int×Unit)) else some (Lp.go ((wr .i64 (d2.1+(1:Int)),()):Int×Unit))) else some (Lp.out (((0:Int),()):Int×Unit))) (((0:Int),()):Int×Unit))
def g73z (x0:Option GD) (x1:Int):Option (Int×Unit):=b73z rkO x0 x1
def q0w:List LSh:=LSh.mk (((11,TV.v (Ty.int .i64)):Nat×TV)::([]:List (Nat×TV))) ([]:List TB)::([]:List LSh)
def b75z (R:Rk) (x0:Option GD) (x1:Int):Option (Int×Unit):=R.wh (fun (d2:Int×Int×Unit)=>bif !ieq d2.2.1 (0:Int) then R.gd (okO (h72z x0 d2.2.1 x1)) (some (Lp.go ((wr .i64 (d2.1+(1:Int)),(getO (h72z x0 d2.2.1 x1)).1,()):Int×Int×Unit))) else some (Lp.out ((d2.1,()):Int×Unit))) (((1:Int),x1,()):Int×Int×Unit)
def g75z (x0:Option GD) (x1:Int):Option (Int×Unit):=b75z rkO x0 x1
def q1i:List LSh:=LSh.mk (((5,TV.v (Ty.int .i64)):Nat×TV)::((6,TV.v (Ty.int .i64)):Nat×TV)::([]:List (Nat×TV))) ([]:List TB)::([]:List LSh)
def b71z (R:Rk) (x0:List Int) (x1:Int):Option (List Int×Unit):=bif ilt x1 (0:Int) then R.gd False (R.gd False (R.gd (okO (qbs (wr IntKind.u64 (↑(List.length x0):Int)) (wr IntKind.u64 x1))) (R.gd ((!ilt (0:Int) (getO (qbs (wr IntKind.u64 (↑(List.length x0):Int)) (wr IntKind.u64 x1))).1)=true→(!ilt (0:Int) (getO (qbs (wr IntKind.u64 (↑(List.length x0):Int)) (wr IntKind.u64 x1))).1)=true) (R.gd (ilt (0:Int) (getO (qbs (wr IntKind.u64 (↑(List.length x0):Int)) (wr IntKind.u64 x1))).1=false→(!ilt (0:Int) (getO (qbs (wr IntKind.u64 (↑(List.length x0):Int)) (wr IntKind.u64 x1))).1)=true) (bif bif ilt (0:Int) (getO (qbs (wr IntKind.u64 (↑(List.length x0):Int)) (wr IntKind.u64 x1))).1 then true else ilt (9223372036854775807:Int) (getO (qbs (wr IntKind.u64 (↑(List.length x0):Int)) (wr IntKind.u64 x1))).2.1 then R.gd False (R.gd False (R.gd ((0:Int)≤wr .i64 (getO (qbs (wr IntKind.u64 (↑(List.length x0):Int)) (wr IntKind.u64 x1))).2.1∧wr .i64 (getO (qbs (wr IntKind.u64 (↑(List.length x0):Int)) (wr IntKind.u64 x1))).2.1≤wr .i64 (getO (qbs (wr IntKind.u64 (↑(List.length x0):Int)) (wr IntKind.u64 x1))).2.1∧wr .i64 (getO (qbs (wr IntKind.u64 (↑(List.length x0):Int)) (wr IntKind.u64 x1))).2.1*(8:Int)≤(1099511627776:Int)) (R.gd ((0:Nat)+Int.toNat (wr .i64 (getO (qbs (wr IntKind.u64 (↑(List.length x0):Int)) (wr IntKind.u64 x1))).2.1)≤List.length (List.replicate (Int.toNat (wr .i64 (getO (qbs (wr IntKind.u64 (↑(List.length x0):Int)) (wr IntKind.u64 x1))).2.1)) (0:Int))) (R.wh (fun (d2:Int×Int×List Int×Unit)=>bif ilt d2.2.1 (↑(Int.toNat d2.1):Int) then R.gd ((0:Int)≤d2.2.1∧d2.2.1≤(↑(Int.toNat d2.1):Int)) (R.gd ((0:Int)≤d2.2.1∧d2.2.1≤(↑(Int.toNat d2.1):Int)) (R.gd ((0:Nat)+Int.toNat d2.2.1≤List.length d2.2.2.1) (R.gd ((0:Nat)+Int.toNat d2.2.1+(Int.toNat d2.1-Int.toNat d2.2.1)≤List.length d2.2.2.1) (some (Lp.go (((↑(Int.toNat d2.1):Int),wr .i64 (d2.2.1+(↑(Nat.min (List.length (List.take (Int.toNat d2.2.1) (List.drop (0:Nat) d2.2.2.1))) (Int.toNat d2.1-Int.toNat d2.2.1)):Int)),setMany d2.2.2.1 ((0:Nat)+Int.toNat d2.2.1) (List.take (Int.toNat d2.1-Int.toNat d2.2.1) (List.take (Int.toNat d2.2.1) (List.drop (0:Nat) d2.2.2.1))),()):Int×Int×List Int×Unit)))))) else R.gd (Int.toNat d2.1=List.length d2.2.2.1) (some (Lp.out ((d2.2.2.1,()):List Int×Unit)))) (((↑(Int.toNat (wr .i64 (getO (qbs (wr IntKind.u64 (↑(List.length x0):Int)) (wr IntKind.u64 x1))).2.1)):Int),(↑(Nat.min (List.length x0) (Int.toNat (wr .i64 (getO (qbs (wr IntKind.u64 (↑(List.length x0):Int)) (wr IntKind.u64 x1))).2.1))):Int),setMany (List.replicate (Int.toNat (wr .i64 (getO (qbs (wr IntKind.u64 (↑(List.length x0):Int)) (wr IntKind.u64 x1))).2.1)) (0:Int)) (0:Nat) (List.take (Int.toNat (wr .i64 (getO (qbs (wr IntKind.u64 (↑(List.length x0):Int)) (wr IntKind.u64 x1))).2.1)) x0),()):Int×Int×List Int×Unit))))) else R.gd ((0:Int)≤wr .i64 (getO (qbs (wr IntKind.u64 (↑(List.length x0):Int)) (wr IntKind.u64 x1))).2.1∧wr .i64 (getO (qbs (wr IntKind.u64 (↑(List.length x0):Int)) (wr IntKind.u64 x1))).2.1≤wr .i64 (getO (qbs (wr IntKind.u64 (↑(List.length x0):Int)) (wr IntKind.u64 x1))).2.1∧wr .i64 (getO (qbs (wr IntKind.u64 (↑(List.length x0):Int)) (wr IntKind.u64 x1))).2.1*(8:Int)≤(1099511627776:Int)) (R.gd ((0:Nat)+Int.toNat (wr .i64 (getO (qbs (wr IntKind.u64 (↑(List.length x0):Int)) (wr IntKind.u64 x1))).2.1)≤List.length (List.replicate (Int.toNat (wr .i64 (getO (qbs (wr IntKind.u64 (↑(List.length x0):Int)) (wr IntKind.u64 x1))).2.1)) (0:Int))) (R.wh (fun (d2:Int×Int×List Int×Unit)=>bif ilt d2.2.1 (↑(Int.toNat d2.1):Int) then R.gd ((0:Int)≤d2.2.1∧d2.2.1≤(↑(Int.toNat d2.1):Int)) (R.gd ((0:Int)≤d2.2.1∧d2.2.1≤(↑(Int.toNat d2.1):Int)) (R.gd ((0:Nat)+Int.toNat d2.2.1≤List.length d2.2.2.1) (R.gd ((0:Nat)+Int.toNat d2.2.1+(Int.toNat d2.1-Int.toNat d2.2.1)≤List.length d2.2.2.1) (some (Lp.go (((↑(Int.toNat d2.1):Int),wr .i64 (d2.2.1+(↑(Nat.min (List.length (List.take (Int.toNat d2.2.1) (List.drop (0:Nat) d2.2.2.1))) (Int.toNat d2.1-Int.toNat d2.2.1)):Int)),setMany d2.2.2.1 ((0:Nat)+Int.toNat d2.2.1) (List.take (Int.toNat d2.1-Int.toNat d2.2.1) (List.take (Int.toNat d2.2.1) (List.drop (0:Nat) d2.2.2.1))),()):Int×Int×List Int×Unit)))))) else R.gd (Int.toNat d2.1=List.length d2.2.2.1) (some (Lp.out ((d2.2.2.1,()):List Int×Unit)))) (((↑(Int.toNat (wr .i64 (getO (qbs (wr IntKind.u64 (↑(List.length x0):Int)) (wr IntKind.u64 x1))).2.1)):Int),(↑(Nat.min (List.length x0) (Int.toNat (wr .i64 (getO (qbs (wr IntKind.u64 (↑(List.length x0):Int)) (wr IntKind.u64 x1))).2.1))):Int),setMany (List.replicate (Int.toNat (wr .i64 (getO (qbs (wr IntKind.u64 (↑(List.length x0):Int)) (wr IntKind.u64 x1))).2.1)) (0:Int)) (0:Nat) (List.take (Int.toNat (wr .i64 (getO (qbs (wr IntKind.u64 (↑(List.length x0):Int)) (wr IntKind.u64 x1))).2.1)) x0),()):Int×Int×List Int×Unit)))))))) else R.gd (okO (qbs (wr IntKind.u64 (↑(List.length x0):Int)) (wr IntKind.u64 x1))) (R.gd ((!ilt (0:Int) (getO (qbs (wr IntKind.u64 (↑(List.length x0):Int)) (wr IntKind.u64 x1))).1)=true→(!ilt (0:Int) (getO (qbs (wr IntKind.u64 (↑(List.length x0):Int)) (wr IntKind.u64 x1))).1)=true) (R.gd (ilt (0:Int) (getO (qbs (wr IntKind.u64 (↑(List.length x0):Int)) (wr IntKind.u64 x1))).1=false→(!ilt (0:Int) (getO (qbs (wr IntKind.u64 (↑(List.length x0):Int)) (wr IntKind.u64 x1))).1)=true) (bif bif ilt (0:Int) (getO (qbs (wr IntKind.u64 (↑(List.length x0):Int)) (wr IntKind.u64 x1))).1 then true else ilt (9223372036854775807:Int) (getO (qbs (wr IntKind.u64 (↑(List.length x0):Int)) (wr IntKind.u64 x1))).2.1 then R.gd False (R.gd False (R.gd ((0:Int)≤wr .i64 (getO (qbs (wr IntKind.u64 (↑(List.length x0):Int)) (wr IntKind.u64 x1))).2.1∧wr .i64 (getO (qbs (wr IntKind.u64 (↑(List.length x0):Int)) (wr IntKind.u64 x1))).2.1≤wr .i64 (getO (qbs (wr IntKind.u64 (↑(List.length x0):Int)) (wr IntKind.u64 x1))).2.1∧wr .i64 (getO (qbs (wr IntKind.u64 (↑(List.length x0):Int)) (wr IntKind.u64 x1))).2.1*(8:Int)≤(1099511627776:Int)) (R.gd ((0:Nat)+Int.toNat (wr .i64 (getO (qbs (wr IntKind.u64 (↑(List.length x0):Int)) (wr IntKind.u64 x1))).2.1)≤List.length (List.replicate (Int.toNat (wr .i64 (getO (qbs (wr IntKind.u64 (↑(List.length x0):Int)) (wr IntKind.u64 x1))).2.1)) (0:Int))) (R.wh (fun (d2:Int×Int×List Int×Unit)=>bif ilt d2.2.1 (↑(Int.toNat d2.1):Int) then R.gd ((0:Int)≤d2.2.1∧d2.2.1≤(↑(Int.toNat d2.1):Int)) (R.gd ((0:Int)≤d2.2.1∧d2.2.1≤(↑(Int.toNat d2.1):Int)) (R.gd ((0:Nat)+Int.toNat d2.2.1≤List.length d2.2.2.1) (R.gd ((0:Nat)+Int.toNat d2.2.1+(Int.toNat d2.1-Int.toNat d2.2.1)≤List.length d2.2.2.1) (some (Lp.go (((↑(Int.toNat d2.1):Int),wr .i64 (d2.2.1+(↑(Nat.min (List.length (List.take (Int.toNat d2.2.1) (List.drop (0:Nat) d2.2.2.1))) (Int.toNat d2.1-Int.toNat d2.2.1)):Int)),setMany d2.2.2.1 ((0:Nat)+Int.toNat d2.2.1) (List.take (Int.toNat d2.1-Int.toNat d2.2.1) (List.take (Int.toNat d2.2.1) (List.drop (0:Nat) d2.2.2.1))),()):Int×Int×List Int×Unit)))))) else R.gd (Int.toNat d2.1=List.length d2.2.2.1) (some (Lp.out ((d2.2.2.1,()):List Int×Unit)))) (((↑(Int.toNat (wr .i64 (getO (qbs (wr IntKind.u64 (↑(List.length x0):Int)) (wr IntKind.u64 x1))).2.1)):Int),(↑(Nat.min (List.length x0) (Int.toNat (wr .i64 (getO (qbs (wr IntKind.u64 (↑(List.length x0):Int)) (wr IntKind.u64 x1))).2.1))):Int),setMany (List.replicate (Int.toNat (wr .i64 (getO (qbs (wr IntKind.u64 (↑(List.length x0):Int)) (wr IntKind.u64 x1))).2.1)) (0:Int)) (0:Nat) (List.take (Int.toNat (wr .i64 (getO (qbs (wr IntKind.u64 (↑(List.length x0):Int)) (wr IntKind.u64 x1))).2.1)) x0),()):Int×Int×List Int×Unit))))) else R.gd ((0:Int)≤wr .i64 (getO (qbs (wr IntKind.u64 (↑(List.length x0):Int)) (wr IntKind.u64 x1))).2.1∧wr .i64 (getO (qbs (wr IntKind.u64 (↑(List.length x0):Int)) (wr IntKind.u64 x1))).2.1≤wr .i64 (getO (qbs (wr IntKind.u64 (↑(List.length x0):Int)) (wr IntKind.u64 x1))).2.1∧wr .i64 (getO (qbs (wr IntKind.u64 (↑(List.length x0):Int)) (wr IntKind.u64 x1))).2.1*(8:Int)≤(1099511627776:Int)) (R.gd ((0:Nat)+Int.toNat (wr .i64 (getO (qbs (wr IntKind.u64 (↑(List.length x0):Int)) (wr IntKind.u64 x1))).2.1)≤List.length (List.replicate (Int.toNat (wr .i64 (getO (qbs (wr IntKind.u64 (↑(List.length x0):Int)) (wr IntKind.u64 x1))).2.1)) (0:Int))) (R.wh (fun (d2:Int×Int×List Int×Unit)=>bif ilt d2.2.1 (↑(Int.toNat d2.1):Int) then R.gd ((0:Int)≤d2.2.1∧d2.2.1≤(↑(Int.toNat d2.1):Int)) (R.gd ((0:Int)≤d2.2.1∧d2.2.1≤(↑(Int.toNat d2.1):Int)) (R.gd ((0:Nat)+Int.toNat d2.2.1≤List.length d2.2.2.1) (R.gd ((0:Nat)+Int.toNat d2.2.1+(Int.toNat d2.1-Int.toNat d2.2.1)≤List.length d2.2.2.1) (some (Lp.go (((↑(Int.toNat d2.1):Int),wr .i64 (d2.2.1+(↑(Nat.min (List.length (List.take (Int.toNat d2.2.1) (List.drop (0:Nat) d2.2.2.1))) (Int.toNat d2.1-Int.toNat d2.2.1)):Int)),setMany d2.2.2.1 ((0:Nat)+Int.toNat d2.2.1) (List.take (Int.toNat d2.1-Int.toNat d2.2.1) (List.take (Int.toNat d2.2.1) (List.drop (0:Nat) d2.2.2.1))),()):Int×Int×List Int×Unit)))))) else R.gd (Int.toNat d2.1=List.length d2.2.2.1) (some (Lp.out ((d2.2.2.1,()):List Int×Unit)))) (((↑(Int.toNat (wr .i64 (getO (qbs (wr IntKind.u64 (↑(List.length x0):Int)) (wr IntKind.u64 x1))).2.1)):Int),(↑(Nat.min (List.length x0) (Int.toNat (wr .i64 (getO (qbs (wr IntKind.u64 (↑(List.length x0):Int)) (wr IntKind.u64 x1))).2.1))):Int),setMany (List.replicate (Int.toNat (wr .i64 (getO (qbs (wr IntKind.u64 (↑(List.length x0):Int)) (wr IntKind.u64 x1))).2.1)) (0:Int)) (0:Nat) (List.take (Int.toNat (wr .i64 (getO (qbs (wr IntKind.u64 (↑(List.length x0):Int)) (wr IntKind.u64 x1))).2.1)) x0),()):Int×Int×List Int×Unit))))))
def g71z (x0:List Int) (x1:Int):Option (List Int×Unit):=b71z rkO x0 x1
def q0o:List LSh:=LSh.mk (((7,TV.sl (0) (1) (0)):Nat×TV)::((8,TV.v (Ty.int .i64)):Nat×TV)::([]:List (Nat×TV))) (TB.arr (Ty.int .i64) true::([]:List TB))::([]:List LSh)
def h44z (x0 x1:List Int):Option (Int×Unit):=b44z (rkF 200) x0 x1
theorem za9 {n:Nat} (x0 x1:List Int):LeO (b44z (rkF n) x0 x1) (b44z rkO x0 x1):=by
 unfold b44z
 repeat' first | with_reducible exact qag | with_reducible refine qap ?_ | with_reducible refine qah ?_ ?_ | with_reducible refine qaj ?_ | with_reducible refine qan ?_ ?_ | (refine qao fun s=>?_;try dsimp only)
theorem q8o (x0 x1:List Int):LeO (h44z x0 x1) (g44z x0 x1):=za9 x0 x1
def qp0:Con:=mkC 44 [.d LI,.d LI] [I64] (fun (x0 x1:List Int)=>[okO (h44z x0 x1)]) (fun (x0 x1:List Int)=>@getO ((Int×Unit)) _ (h44z x0 x1))
theorem zbk:qp0.goal Tryz.prog (spOf [qig]) qz8 [] lm30:=by
 have e:(∀ (x0 x1:List Int),okO (h44z x0 x1)→g44z x0 x1=some (getO (h44z x0 x1)))=qp0.goal Tryz.prog (spOf [qig]) qz8 [] lm30:=by kernel_rfl
 rw [← e];intro x0 x1 h;exact qaz (q8o x0 x1) h
theorem zfg:qp0.Ok Tryz.prog:=Con.of_goal mixed (okC zcg okN) qp0 zbk
def h73z (x0:Option GD) (x1:Int):Option (Int×Unit):=b73z (rkF 200) x0 x1
theorem za7 {n:Nat} (x0:Option GD) (x1:Int):LeO (b73z (rkF n) x0 x1) (b73z rkO x0 x1):=by
 unfold b73z
 repeat' first | with_reducible exact qag | with_reducible refine qap ?_ | with_reducible refine qah ?_ ?_ | with_reducible refine qaj ?_ | with_reducible refine qan ?_ ?_ | (refine qao fun s=>?_;try dsimp only)
theorem q9l (x0:Option GD) (x1:Int):LeO (h73z x0 x1) (g73z x0 x1):=za7 x0 x1
def qqh:Con:=mkC 73 [.d (.optr GT),.d I64] [I64] (fun (x0:Option GD) (x1:Int)=>[okO (h73z x0 x1)]) (fun (x0:Option GD) (x1:Int)=>@getO ((Int×Unit)) _ (h73z x0 x1))
theorem za0:qqh.goal Tryz.prog (spOf [qg0]) q0w [] lm30:=by
 have e:(∀ (x0:Option GD) (x1:Int),okO (h73z x0 x1)→g73z x0 x1=some (getO (h73z x0 x1)))=qqh.goal Tryz.prog (spOf [qg0]) q0w [] lm30:=by kernel_rfl
 rw [← e];intro x0 x1 h;exact qaz (q9l x0 x1) h
theorem zew:qqh.Ok Tryz.prog:=Con.of_goal mixed (okC q49 okN) qqh za0
def h75z (x0:Option GD) (x1:Int):Option (Int×Unit):=b75z (rkF 200) x0 x1
theorem zbm {n:Nat} (x0:Option GD) (x1:Int):LeO (b75z (rkF n) x0 x1) (b75z rkO x0 x1):=by
 unfold b75z
 repeat' first | with_reducible exact qag | with_reducible refine qap ?_ | with_reducible refine qah ?_ ?_ | with_reducible refine qaj ?_ | with_reducible refine qan ?_ ?_ | (refine qao fun s=>?_;try dsimp only)
theorem zad (x0:Option GD) (x1:Int):LeO (h75z x0 x1) (g75z x0 x1):=zbm x0 x1
def qqi:Con:=mkC 75 [.d (.optr GT),.d I64] [I64] (fun (x0:Option GD) (x1:Int)=>[okO (h75z x0 x1)]) (fun (x0:Option GD) (x1:Int)=>@getO ((Int×Unit)) _ (h75z x0 x1))
theorem zb0:qqi.goal Tryz.prog (spOf [qg0]) q1i [] lm30:=by
 have e:(∀ (x0:Option GD) (x1:Int),okO (h75z x0 x1)→g75z x0 x1=some (getO (h75z x0 x1)))=qqi.goal Tryz.prog (spOf [qg0]) q1i [] lm30:=by kernel_rfl
 rw [← e];intro x0 x1 h;exact qaz (zad x0 x1) h
theorem zeu:qqi.Ok Tryz.prog:=Con.of_goal mixed (okC q49 okN) qqi zb0
def h71z (x0:List Int) (x1:Int):Option (List Int×Unit):=b71z (rkF 200) x0 x1
theorem zbj {n:Nat} (x0:List Int) (x1:Int):LeO (b71z (rkF n) x0 x1) (b71z rkO x0 x1):=by
 unfold b71z
 repeat' first | with_reducible exact qag | with_reducible refine qap ?_ | with_reducible refine qah ?_ ?_ | with_reducible refine qaj ?_ | with_reducible refine qan ?_ ?_ | (refine qao fun s=>?_;try dsimp only)
theorem zaw (x0:List Int) (x1:Int):LeO (h71z x0 x1) (g71z x0 x1):=zbj x0 x1
def qp8:SCon:=mkS 71 [.v LI,.v I64] [] [.slf 0 1] [.arr I64 true] (fun (x0:List Int) (x1:Int)=>[okO (h71z x0 x1)]) (fun (x0:List Int) (x1:Int)=>@getO ((List Int×Unit)) _ (h71z x0 x1))
theorem zbe:qp8.goal Tryz.prog (spS [] [qk7]) q0o [] lm30:=by
 have e:(∀ (x0:List Int) (x1:Int),okO (h71z x0 x1)→g71z x0 x1=some (getO (h71z x0 x1)))=qp8.goal Tryz.prog (spS [] [qk7]) q0o [] lm30:=by kernel_rfl
 rw [← e];intro x0 x1 h;exact qaz (zaw x0 x1) h
theorem zfd:qp8.Ok Tryz.prog:=SCon.of_goal mixed (okC zd0 okN) okS0 qp8 zbe
def b43z (R:Rk) (x0 x1:E5):Option (Int×Unit):=R.gd ((5:Nat)≤(5:Nat)) (R.gd ((5:Nat)≤(5:Nat)) (R.gd (okO (h44z (fl5 x0) (fl5 x1))) (some (((getO (h44z (fl5 x0) (fl5 x1))).1,()):Int×Unit))))
def g43z (x0 x1:E5):Option (Int×Unit):=b43z rkO x0 x1
def q2y:List LSh:=([]:List LSh)
def b74z (R:Rk) (x0:Int) (x1:Option GD):Option (Bool×Unit):=R.gd (Option.isSome x1=true) (R.wh (fun (d2:Int×Unit)=>bif ilt d2.1 (↑(List.length (Option.getD x1 (((0:Int),([]:List E5),([]:List (E5×Int)),([]:List (List Int)),([]:List Int),([]:List Int),(0:Int),()):GD)).2.2.2.1):Int) then R.gd ((0:Int)≤d2.1∧d2.1<(↑(List.length (Option.getD x1 (((0:Int),([]:List E5),([]:List (E5×Int)),([]:List (List Int)),([]:List Int),([]:List Int),(0:Int),()):GD)).2.2.2.1):Int)) (R.gd ((0:Int)≤(0:Int)∧(0:Int)<(↑(List.length (List.getD (Option.getD x1 (((0:Int),([]:List E5),([]:List (E5×Int)),([]:List (List Int)),([]:List Int),([]:List Int),(0:Int),()):GD)).2.2.2.1 (Int.toNat d2.1) ([]:List Int))):Int)) (R.gd (okO (h75z x1 (List.getD (List.getD (Option.getD x1 (((0:Int),([]:List E5),([]:List (E5×Int)),([]:List (List Int)),([]:List Int),([]:List Int),(0:Int),()):GD)).2.2.2.1 (Int.toNat d2.1) ([]:List Int)) (0:Nat) (0:Int)))) (R.gd ((getO (h75z x1 (List.getD (List.getD (Option.getD x1 (((0:Int),([]:List E5),([]:List (E5×Int)),([]:List (List Int)),([]:List Int),([]:List Int),(0:Int),()):GD)).2.2.2.1 (Int.toNat d2.1) ([]:List Int)) (0:Nat) (0:Int)))).1≠(0:Int)) (bif !ieq (Int.tmod (wr .i64 (x0-(1:Int))) (getO (h75z x1 (List.getD (List.getD (Option.getD x1 (((0:Int),([]:List E5),([]:List (E5×Int)),([]:List (List Int)),([]:List Int),([]:List Int),(0:Int),()):GD)).2.2.2.1 (Int.toNat d2.1) ([]:List Int)) (0:Nat) (0:Int)))).1) (0:Int) then some (Lp.out ((false,()):Bool×Unit)) else some (Lp.go ((wr .i64 (d2.1+(1:Int)),()):Int×Unit)))))) else R.gd (okO (h76z x0)) (some (Lp.out (((getO (h76z x0)).1,()):Bool×Unit)))) (((0:Int),()):Int×Unit))
def g74z (x0:Int) (x1:Option GD):Option (Bool×Unit):=b74z rkO x0 x1
def q06:List LSh:=LSh.mk (((11,TV.v (Ty.int .i64)):Nat×TV)::([]:List (Nat×TV))) ([]:List TB)::([]:List LSh)
def h43z (x0 x1:E5):Option (Int×Unit):=b43z (rkF 200) x0 x1
theorem q96 {n:Nat} (x0 x1:E5):LeO (b43z (rkF n) x0 x1) (b43z rkO x0 x1):=by
 unfold b43z
 repeat' first | with_reducible exact qag | with_reducible refine qap ?_ | with_reducible refine qah ?_ ?_ | with_reducible refine qaj ?_ | with_reducible refine qan ?_ ?_ | (refine qao fun s=>?_;try dsimp only)
theorem q7o (x0 x1:E5):LeO (h43z x0 x1) (g43z x0 x1):=q96 x0 x1
def qer:Con:=mkC 43 [.d P5,.d P5] [I64] (fun (x0 x1:E5)=>[okO (h43z x0 x1)]) (fun (x0 x1:E5)=>@getO ((Int×Unit)) _ (h43z x0 x1))
theorem q9f:qer.goal Tryz.prog (spOf [qp0]) q2y [] lm30:=by
 have e:(∀ (x0 x1:E5),okO (h43z x0 x1)→g43z x0 x1=some (getO (h43z x0 x1)))=qer.goal Tryz.prog (spOf [qp0]) q2y [] lm30:=by kernel_rfl
 rw [← e];intro x0 x1 h;exact qaz (q7o x0 x1) h
theorem qyk:qer.Ok Tryz.prog:=Con.of_goal mixed (okC zfg okN) qer q9f
def h74z (x0:Int) (x1:Option GD):Option (Bool×Unit):=b74z (rkF 200) x0 x1
theorem zcp {n:Nat} (x0:Int) (x1:Option GD):LeO (b74z (rkF n) x0 x1) (b74z rkO x0 x1):=by
 unfold b74z
 repeat' first | with_reducible exact qag | with_reducible refine qap ?_ | with_reducible refine qah ?_ ?_ | with_reducible refine qaj ?_ | with_reducible refine qan ?_ ?_ | (refine qao fun s=>?_;try dsimp only)
theorem q95 (x0:Int) (x1:Option GD):LeO (h74z x0 x1) (g74z x0 x1):=zcp x0 x1
def qpg:Con:=mkC 74 [.d I64,.d (.ptr (.optr GT))] [.bool] (fun (x0:Int) (x1:Option GD)=>[okO (h74z x0 x1)]) (fun (x0:Int) (x1:Option GD)=>@getO ((Bool×Unit)) _ (h74z x0 x1))
theorem zan:qpg.goal Tryz.prog (spOf [qqi,qpf]) q06 [] lm30:=by
 have e:(∀ (x0:Int) (x1:Option GD),okO (h74z x0 x1)→g74z x0 x1=some (getO (h74z x0 x1)))=qpg.goal Tryz.prog (spOf [qqi,qpf]) q06 [] lm30:=by kernel_rfl
 rw [← e];intro x0 x1 h;exact qaz (q95 x0 x1) h
theorem zfo:qpg.Ok Tryz.prog:=Con.of_goal mixed (okC zeu (okC zfa okN)) qpg zan
end
end Go.Top
