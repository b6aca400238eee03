/- Groups of permutations: contracts of the ze7 functions. -/
import Derived.Test.YtieimmiiaabpgaaGreatPA
import Derived.Test.YtieimmiiaabpgaaGreatAV
import Derived.Test.YtieimmiiaabpgaaGreatXB
set_option linter.unusedVariables false
set_option linter.unusedSimpArgs false
set_option maxRecDepth 100000
namespace Go.Top
noncomputable section
open Go Go.Ab Go.Proofs Go.Schur
abbrev E5:=Int×Int×Int×Int×Int×Unit
abbrev P5:Ty:=arrT 5 I64
abbrev GT:Ty:=.prod I64 (.prod (.slice P5) (.prod (.map P5 I64) (.prod LLI (.prod LI (.prod LI (.prod I64 .unit))))))
abbrev GD:=Int×List E5×List (E5×Int)×List (List Int)×List Int×List Int×Int×Unit
abbrev z5:E5:=(0,0,0,0,0,())
abbrev tk5 (s:List Int):List Int:=s.getD 0 0::s.getD 1 0::s.getD 2 0::s.getD 3 0::s.getD 4 0::[]
abbrev fl5 (P:E5):List Int:=P.1::P.2.1::P.2.2.1::P.2.2.2.1::P.2.2.2.2.1::[]
abbrev tup5 (s:List Int):E5:=(s.getD 0 0,s.getD 1 0,s.getD 2 0,s.getD 3 0,s.getD 4 0,())
def b40z (R:Rk) (x0:List Int) (x1:Int):Option (Bool×Unit):=R.wh (fun (d2:Int×Int×Unit)=>bif ilt d2.2.1 (↑(List.length x0):Int) then R.gd ((0:Int)≤d2.2.1∧d2.2.1<(↑(List.length x0):Int)) (R.gd ((!ilt (List.getD x0 (Int.toNat d2.2.1) (0:Int)) (0:Int))=true→(!ilt (List.getD x0 (Int.toNat d2.2.1) (0:Int)) (0:Int))=true∧(!ilt (List.getD x0 (Int.toNat d2.2.1) (0:Int)) (0:Int))=true) (R.gd (ilt (List.getD x0 (Int.toNat d2.2.1) (0:Int)) (0:Int)=false→(!ilt (List.getD x0 (Int.toNat d2.2.1) (0:Int)) (0:Int))=true) (bif bif ilt (List.getD x0 (Int.toNat d2.2.1) (0:Int)) (0:Int) then true else ile x1 (List.getD x0 (Int.toNat d2.2.1) (0:Int)) then some (Lp.out ((false,()):Bool×Unit)) else R.gd ((0:Int)≤List.getD x0 (Int.toNat d2.2.1) (0:Int)) (some (Lp.go ((ior IntKind.i64 d2.1 (ishl IntKind.i64 (1:Int) (List.getD x0 (Int.toNat d2.2.1) (0:Int))),wr .i64 (d2.2.1+(1:Int)),()):Int×Int×Unit)))))) else R.gd (ieq (↑(List.length x0):Int) x1=true→ieq (↑(List.length x0):Int) x1=true∧(0:Int)≤x1) (R.gd (ieq (↑(List.length x0):Int) x1=true→ieq (↑(List.length x0):Int) x1=true) (R.gd (ieq (↑(List.length x0):Int) x1=true→ieq (↑(List.length x0):Int) x1=true∧ieq (↑(List.length x0):Int) x1=true) (R.gd (ieq (↑(List.length x0):Int) x1=true→ieq (↑(List.length x0):Int) x1=true) (some (Lp.out ((bif ieq (↑(List.length x0):Int) x1 then ieq d2.1 (wr .i64 (ishl IntKind.i64 (1:Int) x1-(1:Int))) else false,()):Bool×Unit))))))) (((0:Int),(0:Int),()):Int×Int×Unit)
def g40z (x0:List Int) (x1:Int):Option (Bool×Unit):=b40z rkO x0 x1
def q0n:List LSh:=LSh.mk (((5,TV.v (Ty.int .i64)):Nat×TV)::((10,TV.v (Ty.int .i64)):Nat×TV)::([]:List (Nat×TV))) ([]:List TB)::([]:List LSh)
def b41z (R:Rk) (x0 x1:E5):Option (E5×Unit):=R.gd ((5:Nat)≤(5:Nat)) (R.wh (fun (d2:Int×List Int×List Int×List Int×Unit)=>bif ilt d2.1 (5:Int) then R.gd ((0:Int)≤d2.1∧d2.1<(5:Int)) (R.gd ((0:Int)≤(@id Int (qim (5:Nat) (Ty.int .i64) ((x1:E5):E5) (Int.toNat d2.1)))∧(@id Int (qim (5:Nat) (Ty.int .i64) ((x1:E5):E5) (Int.toNat d2.1)))<(5:Int)) (R.gd ((0:Nat)+Int.toNat (@id Int (qim (5:Nat) (Ty.int .i64) ((x1:E5):E5) (Int.toNat d2.1)))*(1:Nat)<List.length d2.2.1) (R.gd ((0:Int)≤d2.1∧d2.1<(5:Int)) (R.gd ((0:Nat)+Int.toNat d2.1*(1:Nat)<List.length d2.2.2.2.1) (some (Lp.go ((wr .i64 (d2.1+(1:Int)),d2.2.1,d2.2.2.1,List.set d2.2.2.2.1 ((0:Nat)+Int.toNat d2.1*(1:Nat)) (List.getD d2.2.1 ((0:Nat)+Int.toNat (@id Int (qim (5:Nat) (Ty.int .i64) ((x1:E5):E5) (Int.toNat d2.1)))*(1:Nat)) (0:Int)),()):Int×List Int×List Int×List Int×Unit))))))) else R.gd ((5:Nat)≤List.length d2.2.2.2.1) (R.gd ((5:Nat)≤List.length d2.2.2.1) (R.gd ((5:Nat)≤List.length (setMany d2.2.2.1 (0:Nat) (tk5 d2.2.2.2.1))) (some (Lp.out ((((tup5 (setMany d2.2.2.1 (0:Nat) (tk5 d2.2.2.2.1))):E5),()):E5×Unit)))))) (((0:Int),x0.1::x0.2.1::x0.2.2.1::x0.2.2.2.1::x0.2.2.2.2.1::([]:List Int),(0:Int)::(0:Int)::(0:Int)::(0:Int)::(0:Int)::([]:List Int),(0:Int)::(0:Int)::(0:Int)::(0:Int)::(0:Int)::([]:List Int),()):Int×List Int×List Int×List Int×Unit))
def g41z (x0 x1:E5):Option (E5×Unit):=b41z rkO x0 x1
def q0e:List LSh:=LSh.mk (((2,TV.ref (0) 1 0 0):Nat×TV)::((4,TV.ref (1) 1 0 0):Nat×TV)::((5,TV.ref (2) 1 0 0):Nat×TV)::((9,TV.v (Ty.int .i64)):Nat×TV)::([]:List (Nat×TV))) (TB.arr (Ty.int .i64) false::TB.arr (Ty.int .i64) false::TB.arr (Ty.int .i64) false::([]:List TB))::([]:List LSh)
def b98z (R:Rk) (x0:Int):Option (Bool×Unit):=some ((!ieq x0 x0,()):Bool×Unit)
def g98z (x0:Int):Option (Bool×Unit):=b98z rkO x0
def q1s:List LSh:=([]:List LSh)
def b76z (R:Rk) (x0:Int):Option (Bool×Unit):=R.wh (fun (d1:Int×Unit)=>bif ile (wr .i64 (d1.1*d1.1)) x0 then R.gd (d1.1≠(0:Int)) (bif ieq (Int.tmod x0 d1.1) (0:Int) then some (Lp.out ((false,()):Bool×Unit)) else some (Lp.go ((wr .i64 (d1.1+(1:Int)),()):Int×Unit))) else some (Lp.out ((ilt (1:Int) x0,()):Bool×Unit))) (((2:Int),()):Int×Unit)
def g76z (x0:Int):Option (Bool×Unit):=b76z rkO x0
def q0z:List LSh:=LSh.mk (((3,TV.v (Ty.int .i64)):Nat×TV)::([]:List (Nat×TV))) ([]:List TB)::([]:List LSh)
def b66z (R:Rk) (x0:Option GD) (x1:Int):Option (Int×Unit):=R.gd (Option.isSome x0=true) (R.gd ((Option.getD x0 (((0:Int),([]:List E5),([]:List (E5×Int)),([]:List (List Int)),([]:List Int),([]:List Int),(0:Int),()):GD)).2.2.2.2.2.2.1≠(0:Int)) (R.gd (Option.isSome x0=true) (R.gd (Option.isSome x0=true) (R.gd ((Option.getD x0 (((0:Int),([]:List E5),([]:List (E5×Int)),([]:List (List Int)),([]:List Int),([]:List Int),(0:Int),()):GD)).2.2.2.2.2.2.1≠(0:Int)) (some ((Int.tmod (wr .i64 (Int.tmod x1 (Option.getD x0 (((0:Int),([]:List E5),([]:List (E5×Int)),([]:List (List Int)),([]:List Int),([]:List Int),(0:Int),()):GD)).2.2.2.2.2.2.1+(Option.getD x0 (((0:Int),([]:List E5),([]:List (E5×Int)),([]:List (List Int)),([]:List Int),([]:List Int),(0:Int),()):GD)).2.2.2.2.2.2.1)) (Option.getD x0 (((0:Int),([]:List E5),([]:List (E5×Int)),([]:List (List Int)),([]:List Int),([]:List Int),(0:Int),()):GD)).2.2.2.2.2.2.1,()):Int×Unit))))))
def g66z (x0:Option GD) (x1:Int):Option (Int×Unit):=b66z rkO x0 x1
def q0i:List LSh:=([]:List LSh)
def qro (R:Rk) (x0:Option GD) (d1:Int×List Int×Unit) (d2:Int×Int×List Int×Unit):Option (Lp (Int×Int×List Int×Unit) (Lp (Int×List Int×Unit) (List Int×Unit))):=bif ilt d2.2.1 (↑(List.length (List.take (Int.toNat (Option.getD x0 (((0:Int),([]:List E5),([]:List (E5×Int)),([]:List (List Int)),([]:List Int),([]:List Int),(0:Int),()):GD)).1) (fl5 (List.getD (Option.getD x0 (((0:Int),([]:List E5),([]:List (E5×Int)),([]:List (List Int)),([]:List Int),([]:List Int),(0:Int),()):GD)).2.1 (Int.toNat (List.getD (List.getD (Option.getD x0 (((0:Int),([]:List E5),([]:List (E5×Int)),([]:List (List Int)),([]:List Int),([]:List Int),(0:Int),()):GD)).2.2.2.1 (Int.toNat d1.1) ([]:List Int)) (0:Nat) (0:Int))) z5)))):Int) then R.gd ((0:Int)≤d2.2.1∧d2.2.1<(↑(List.length (List.take (Int.toNat (Option.getD x0 (((0:Int),([]:List E5),([]:List (E5×Int)),([]:List (List Int)),([]:List Int),([]:List Int),(0:Int),()):GD)).1) (fl5 (List.getD (Option.getD x0 (((0:Int),([]:List E5),([]:List (E5×Int)),([]:List (List Int)),([]:List Int),([]:List Int),(0:Int),()):GD)).2.1 (Int.toNat (List.getD (List.getD (Option.getD x0 (((0:Int),([]:List E5),([]:List (E5×Int)),([]:List (List Int)),([]:List Int),([]:List Int),(0:Int),()):GD)).2.2.2.1 (Int.toNat d1.1) ([]:List Int)) (0:Nat) (0:Int))) z5)))):Int)) (bif ieq d2.2.1 (List.getD (List.take (Int.toNat (Option.getD x0 (((0:Int),([]:List E5),([]:List (E5×Int)),([]:List (List Int)),([]:List Int),([]:List Int),(0:Int),()):GD)).1) (fl5 (List.getD (Option.getD x0 (((0:Int),([]:List E5),([]:List (E5×Int)),([]:List (List Int)),([]:List Int),([]:List Int),(0:Int),()):GD)).2.1 (Int.toNat (List.getD (List.getD (Option.getD x0 (((0:Int),([]:List E5),([]:List (E5×Int)),([]:List (List Int)),([]:List Int),([]:List Int),(0:Int),()):GD)).2.2.2.1 (Int.toNat d1.1) ([]:List Int)) (0:Nat) (0:Int))) z5))) (Int.toNat d2.2.1) (0:Int)) then R.gd (List.length d2.2.2.1=List.length d2.2.2.1) (some (Lp.go ((wr .i64 (d2.1+(1:Int)),wr .i64 (d2.2.1+(1:Int)),d2.2.2.1,()):Int×Int×List Int×Unit))) else R.gd (List.length d2.2.2.1=List.length d2.2.2.1) (some (Lp.go ((d2.1,wr .i64 (d2.2.1+(1:Int)),d2.2.2.1,()):Int×Int×List Int×Unit)))) else R.gd (List.length d2.2.2.1≤List.length d2.2.2.1) (R.gd ((List.length d2.2.2.1+(1:Nat))*(8:Nat)≤(1099511627776:Nat)) (R.gd (List.length d2.2.2.1+(1:Nat)=List.length (List.take (List.length d2.2.2.1) d2.2.2.1++d2.1::([]:List Int))) (some (Lp.out (Lp.go ((wr .i64 (d1.1+(1:Int)),List.take (List.length d2.2.2.1) d2.2.2.1++d2.1::([]:List Int),()):Int×List Int×Unit))))))
def b34z (R:Rk) (x0:Option GD):Option (List Int×Unit):=R.gd (Option.isSome x0=true) (R.gd ((0:Nat)=(0:Nat)) (R.wh (fun (d1:Int×List Int×Unit)=>bif ilt d1.1 (↑(List.length (Option.getD x0 (((0:Int),([]:List E5),([]:List (E5×Int)),([]:List (List Int)),([]:List Int),([]:List Int),(0:Int),()):GD)).2.2.2.1):Int) then R.gd ((0:Int)≤d1.1∧d1.1<(↑(List.length (Option.getD x0 (((0:Int),([]:List E5),([]:List (E5×Int)),([]:List (List Int)),([]:List Int),([]:List Int),(0:Int),()):GD)).2.2.2.1):Int)) (R.gd (Option.isSome x0=true) (R.gd ((0:Int)≤(0:Int)∧(0:Int)<(↑(List.length (List.getD (Option.getD x0 (((0:Int),([]:List E5),([]:List (E5×Int)),([]:List (List Int)),([]:List Int),([]:List Int),(0:Int),()):GD)).2.2.2.1 (Int.toNat d1.1) ([]:List Int))):Int)) (R.gd ((0:Int)≤List.getD (List.getD (Option.getD x0 (((0:Int),([]:List E5),([]:List (E5×Int)),([]:List (List Int)),([]:List Int),([]:List Int),(0:Int),()):GD)).2.2.2.1 (Int.toNat d1.1) ([]:List Int)) (0:Nat) (0:Int)∧List.getD (List.getD (Option.getD x0 (((0:Int),([]:List E5),([]:List (E5×Int)),([]:List (List Int)),([]:List Int),([]:List Int),(0:Int),()):GD)).2.2.2.1 (Int.toNat d1.1) ([]:List Int)) (0:Nat) (0:Int)<(↑(List.length (Option.getD x0 (((0:Int),([]:List E5),([]:List (E5×Int)),([]:List (List Int)),([]:List Int),([]:List Int),(0:Int),()):GD)).2.1):Int)) (R.gd (Option.isSome x0=true) (R.gd ((0:Int)≤(Option.getD x0 (((0:Int),([]:List E5),([]:List (E5×Int)),([]:List (List Int)),([]:List Int),([]:List Int),(0:Int),()):GD)).1∧(Option.getD x0 (((0:Int),([]:List E5),([]:List (E5×Int)),([]:List (List Int)),([]:List Int),([]:List Int),(0:Int),()):GD)).1≤(5:Int)) (R.gd (List.length d1.2.1=List.length d1.2.1) (R.wh (qro R x0 d1) (((0:Int),(0:Int),d1.2.1,()):Int×Int×List Int×Unit)))))))) else R.gd ((0:Nat)+List.length d1.2.1≤List.length d1.2.1) (some (Lp.out ((List.take (List.length d1.2.1) (List.drop (0:Nat) d1.2.1),()):List Int×Unit)))) (((0:Int),([]:List Int),()):Int×List Int×Unit)))
def g34z (x0:Option GD):Option (List Int×Unit):=b34z rkO x0
def q1r:List LSh:=LSh.mk (((3,TV.slf (0) (1)):Nat×TV)::((14,TV.v (Ty.int .i64)):Nat×TV)::([]:List (Nat×TV))) (TB.arr (Ty.int .i64) true::([]:List TB))::LSh.mk (((3,TV.slf (0) (1)):Nat×TV)::((6,TV.v (Ty.int .i64)):Nat×TV)::((32,TV.v (Ty.int .i64)):Nat×TV)::([]:List (Nat×TV))) (TB.arr (Ty.int .i64) true::([]:List TB))::([]:List LSh)
def q3u (R:Rk) (x0 x1:Int):Option (Int×Int×Unit):=R.gd ((0:Int)≤(32:Int)) (R.gd ((0:Int)≤(32:Int)) (R.gd ((0:Int)≤(32:Int)) (R.gd ((0:Int)≤(32:Int)) (R.gd ((0:Int)≤(32:Int)) (some ((wr IntKind.u64 (wr IntKind.u64 (wr IntKind.u64 (ishr IntKind.u64 x0 (32:Int)*ishr IntKind.u64 x1 (32:Int))+ishr IntKind.u64 (wr IntKind.u64 (wr IntKind.u64 (ishr IntKind.u64 x0 (32:Int)*iand IntKind.u64 x1 (4294967295:Int))+ishr IntKind.u64 (wr IntKind.u64 (iand IntKind.u64 x0 (4294967295:Int)*iand IntKind.u64 x1 (4294967295:Int))) (32:Int))) (32:Int))+ishr IntKind.u64 (wr IntKind.u64 (iand IntKind.u64 (wr IntKind.u64 (wr IntKind.u64 (ishr IntKind.u64 x0 (32:Int)*iand IntKind.u64 x1 (4294967295:Int))+ishr IntKind.u64 (wr IntKind.u64 (iand IntKind.u64 x0 (4294967295:Int)*iand IntKind.u64 x1 (4294967295:Int))) (32:Int))) (4294967295:Int)+wr IntKind.u64 (iand IntKind.u64 x0 (4294967295:Int)*ishr IntKind.u64 x1 (32:Int)))) (32:Int)),wr IntKind.u64 (x0*x1),()):Int×Int×Unit))))))
def zd3 (x0 x1:Int):Option (Int×Int×Unit):=q3u rkO x0 x1
def qvt:List LSh:=([]:List LSh)
def b30z (R:Rk) (x0:List Int):Option (List Int×Unit):=R.gd (List.length x0=List.length x0) (R.wh (fun (d1:Int×Int×List Int×Unit)=>bif ilt d1.1 d1.2.1 then R.gd ((0:Int)≤d1.2.1∧d1.2.1<(↑(List.length d1.2.2.1):Int)) (R.gd ((0:Nat)+Int.toNat d1.2.1<List.length d1.2.2.1) (R.gd ((0:Int)≤d1.1∧d1.1<(↑(List.length d1.2.2.1):Int)) (R.gd ((0:Nat)+Int.toNat d1.1<List.length d1.2.2.1) (R.gd ((0:Int)≤d1.1∧d1.1<(↑(List.length d1.2.2.1):Int)) (R.gd ((0:Nat)+Int.toNat d1.1<List.length d1.2.2.1) (R.gd ((0:Int)≤d1.2.1∧d1.2.1<(↑(List.length d1.2.2.1):Int)) (R.gd ((0:Nat)+Int.toNat d1.2.1<List.length (List.set d1.2.2.1 ((0:Nat)+Int.toNat d1.1) (List.getD d1.2.2.1 ((0:Nat)+Int.toNat d1.2.1) (0:Int)))) (R.gd (List.length d1.2.2.1=List.length (List.set (List.set d1.2.2.1 ((0:Nat)+Int.toNat d1.1) (List.getD d1.2.2.1 ((0:Nat)+Int.toNat d1.2.1) (0:Int))) ((0:Nat)+Int.toNat d1.2.1) (List.getD d1.2.2.1 ((0:Nat)+Int.toNat d1.1) (0:Int)))) (some (Lp.go ((wr .i64 (d1.1+(1:Int)),wr .i64 (d1.2.1-(1:Int)),List.set (List.set d1.2.2.1 ((0:Nat)+Int.toNat d1.1) (List.getD d1.2.2.1 ((0:Nat)+Int.toNat d1.2.1) (0:Int))) ((0:Nat)+Int.toNat d1.2.1) (List.getD d1.2.2.1 ((0:Nat)+Int.toNat d1.1) (0:Int)),()):Int×Int×List Int×Unit))))))))))) else some (Lp.out ((d1.2.2.1,()):List Int×Unit))) (((0:Int),wr .i64 ((↑(List.length x0):Int)-(1:Int)),x0,()):Int×Int×List Int×Unit))
def g30z (x0:List Int):Option (List Int×Unit):=b30z rkO x0
def q2l:List LSh:=LSh.mk3 (((0,TV.slf (0) (1)):Nat×TV)::((2,TV.v (Ty.int .i64)):Nat×TV)::((3,TV.v (Ty.int .i64)):Nat×TV)::([]:List (Nat×TV))) (TB.arr (Ty.int .i64) true::([]:List TB)) (1)::([]:List LSh)
def b61z (R:Rk) (x0:List Int):Option (Int×Unit):=R.wh (fun (d1:Int×Unit)=>bif ilt d1.1 (↑(List.length x0):Int) then R.gd ((0:Int)≤d1.1∧d1.1<(↑(List.length x0):Int)) (bif !ieq (List.getD x0 (Int.toNat d1.1) (0:Int)) (0:Int) then some (Lp.out ((List.getD x0 (Int.toNat d1.1) (0:Int),()):Int×Unit)) else some (Lp.go ((wr .i64 (d1.1+(1:Int)),()):Int×Unit))) else some (Lp.out (((0:Int),()):Int×Unit))) (((0:Int),()):Int×Unit)
def g61z (x0:List Int):Option (Int×Unit):=b61z rkO x0
def q23:List LSh:=LSh.mk (((8,TV.v (Ty.int .i64)):Nat×TV)::([]:List (Nat×TV))) ([]:List TB)::([]:List LSh)
def b22z (R:Rk) (x0 x1:List Int):Option (Bool×Unit):=bif !ieq (↑(List.length x0):Int) (↑(List.length x1):Int) then some ((false,()):Bool×Unit) else R.wh (fun (d2:Int×Unit)=>bif ilt d2.1 (↑(List.length x0):Int) then R.gd ((0:Int)≤d2.1∧d2.1<(↑(List.length x0):Int)) (R.gd ((0:Int)≤d2.1∧d2.1<(↑(List.length x1):Int)) (bif !ieq (List.getD x0 (Int.toNat d2.1) (0:Int)) (List.getD x1 (Int.toNat d2.1) (0:Int)) then some (Lp.out ((false,()):Bool×Unit)) else some (Lp.go ((wr .i64 (d2.1+(1:Int)),()):Int×Unit)))) else some (Lp.out ((true,()):Bool×Unit))) (((0:Int),()):Int×Unit)
def g22z (x0 x1:List Int):Option (Bool×Unit):=b22z rkO x0 x1
def q3o:List LSh:=LSh.mk (((13,TV.v (Ty.int .i64)):Nat×TV)::([]:List (Nat×TV))) ([]:List TB)::([]:List LSh)
def b11z (R:Rk) (x0:Int):Option (List (List Int)×Unit):=R.gd ((0:Nat)=(0:Nat)) (R.gd ((0:Nat)=(0:Nat)) (R.wh (fun (d1:Int×List Int×List Int×Unit)=>bif ilt d1.1 x0 then R.gd (x0≠(0:Int)) (R.gd (List.length d1.2.1≤List.length d1.2.1) (R.gd ((List.length d1.2.1+(1:Nat))*(8:Nat)≤(1099511627776:Nat)) (R.gd (List.length d1.2.2.1≤List.length d1.2.2.1) (R.gd ((List.length d1.2.2.1+(1:Nat))*(8:Nat)≤(1099511627776:Nat)) (R.gd (List.length d1.2.1+(1:Nat)=List.length (List.take (List.length d1.2.1) d1.2.1++Int.tmod (wr .i64 (d1.1+(1:Int))) x0::([]:List Int))) (R.gd (List.length d1.2.2.1+(1:Nat)=List.length (List.take (List.length d1.2.2.1) d1.2.2.1++d1.1::([]:List Int))) (some (Lp.go ((wr .i64 (d1.1+(1:Int)),List.take (List.length d1.2.1) d1.2.1++Int.tmod (wr .i64 (d1.1+(1:Int))) x0::([]:List Int),List.take (List.length d1.2.2.1) d1.2.2.1++d1.1::([]:List Int),()):Int×List Int×List Int×Unit))))))))) else bif ilt (1:Int) x0 then R.gd ((0:Int)≤(0:Int)∧(0:Int)<(↑(List.length d1.2.2.1):Int)) (R.gd ((0:Nat)<List.length d1.2.2.1) (R.gd ((0:Int)≤(1:Int)∧(1:Int)<(↑(List.length d1.2.2.1):Int)) (R.gd ((1:Nat)<List.length (List.set d1.2.2.1 (0:Nat) (1:Int))) (R.gd ((0:Nat)+List.length d1.2.1≤List.length d1.2.1) (R.gd ((0:Nat)+List.length d1.2.2.1≤List.length (List.set (List.set d1.2.2.1 (0:Nat) (1:Int)) (1:Nat) (0:Int))) (some (Lp.out ((List.take (List.length d1.2.1) (List.drop (0:Nat) d1.2.1)::List.take (List.length d1.2.2.1) (List.drop (0:Nat) (List.set (List.set d1.2.2.1 (0:Nat) (1:Int)) (1:Nat) (0:Int)))::([]:List (List Int)),()):List (List Int)×Unit)))))))) else R.gd ((0:Nat)+List.length d1.2.1≤List.length d1.2.1) (R.gd ((0:Nat)+List.length d1.2.2.1≤List.length d1.2.2.1) (some (Lp.out ((List.take (List.length d1.2.1) (List.drop (0:Nat) d1.2.1)::List.take (List.length d1.2.2.1) (List.drop (0:Nat) d1.2.2.1)::([]:List (List Int)),()):List (List Int)×Unit))))) (((0:Int),([]:List Int),([]:List Int),()):Int×List Int×List Int×Unit)))
def g11z (x0:Int):Option (List (List Int)×Unit):=b11z rkO x0
def q2y:List LSh:=LSh.mk (((3,TV.slf (0) (1)):Nat×TV)::((4,TV.slf (1) (1)):Nat×TV)::((7,TV.v (Ty.int .i64)):Nat×TV)::([]:List (Nat×TV))) (TB.arr (Ty.int .i64) true::TB.arr (Ty.int .i64) true::([]:List TB))::([]:List LSh)
def h40z (x0:List Int) (x1:Int):Option (Bool×Unit):=b40z (rkF 200) x0 x1
theorem za5 {n:Nat} (x0:List Int) (x1:Int):LeO (b40z (rkF n) x0 x1) (b40z rkO x0 x1):=by
 unfold b40z
 repeat' first | with_reducible exact qag | with_reducible refine qan ?_ | with_reducible refine qah ?_ ?_ | with_reducible refine qaj ?_ | with_reducible refine qap ?_ ?_ | (refine qao fun s=>?_;try dsimp only)
theorem q9d (x0:List Int) (x1:Int):LeO (h40z x0 x1) (g40z x0 x1):=za5 x0 x1
def qqf:Con:=mkC 40 [.d LI,.d I64] [.bool] (fun (x0:List Int) (x1:Int)=>[okO (h40z x0 x1)]) (fun (x0:List Int) (x1:Int)=>@getO ((Bool×Unit)) _ (h40z x0 x1))
theorem zcu:qqf.goal Tryz.prog (spOf []) q0n [] lm30:=by
 have e:(∀ (x0:List Int) (x1:Int),okO (h40z x0 x1)→g40z x0 x1=some (getO (h40z x0 x1)))=qqf.goal Tryz.prog (spOf []) q0n [] lm30:=by kernel_rfl
 rw [← e];intro x0 x1 h;exact qaz (q9d x0 x1) h
theorem zft:qqf.Ok Tryz.prog:=Con.of_goal mixed okN qqf zcu
def h41z (x0 x1:E5):Option (E5×Unit):=b41z (rkF 200) x0 x1
theorem q83 {n:Nat} (x0 x1:E5):LeO (b41z (rkF n) x0 x1) (b41z rkO x0 x1):=by
 unfold b41z
 repeat' first | with_reducible exact qag | with_reducible refine qan ?_ | with_reducible refine qah ?_ ?_ | with_reducible refine qaj ?_ | with_reducible refine qap ?_ ?_ | (refine qao fun s=>?_;try dsimp only)
theorem zbw (x0 x1:E5):LeO (h41z x0 x1) (g41z x0 x1):=q83 x0 x1
def qlz:Con:=mkC 41 [.d P5,.d P5] [P5] (fun (x0 x1:E5)=>[okO (h41z x0 x1)]) (fun (x0 x1:E5)=>@getO ((E5×Unit)) _ (h41z x0 x1))
theorem q8b:qlz.goal Tryz.prog (spOf []) q0e [] lm30:=by
 have e:(∀ (x0 x1:E5),okO (h41z x0 x1)→g41z x0 x1=some (getO (h41z x0 x1)))=qlz.goal Tryz.prog (spOf []) q0e [] lm30:=by kernel_rfl
 rw [← e];intro x0 x1 h;exact qaz (zbw x0 x1) h
theorem zc5:qlz.Ok Tryz.prog:=Con.of_goal mixed okN qlz q8b
def h98z (x0:Int):Option (Bool×Unit):=b98z (rkF 200) x0
theorem zca {n:Nat} (x0:Int):LeO (b98z (rkF n) x0) (b98z rkO x0):=by
 unfold b98z
 repeat' first | with_reducible exact qag | with_reducible refine qan ?_ | with_reducible refine qah ?_ ?_ | with_reducible refine qaj ?_ | with_reducible refine qap ?_ ?_ | (refine qao fun s=>?_;try dsimp only)
theorem q9n (x0:Int):LeO (h98z x0) (g98z x0):=zca x0
def qp5:Con:=mkC 98 [.d I64] [.bool] (fun (x0:Int)=>[okO (h98z x0)]) (fun (x0:Int)=>@getO ((Bool×Unit)) _ (h98z x0))
theorem zau:qp5.goal Tryz.prog (spOf []) q1s [] lm30:=by
 have e:(∀ (x0:Int),okO (h98z x0)→g98z x0=some (getO (h98z x0)))=qp5.goal Tryz.prog (spOf []) q1s [] lm30:=by kernel_rfl
 rw [← e];intro x0 h;exact qaz (q9n x0) h
theorem zfe:qp5.Ok Tryz.prog:=Con.of_goal mixed okN qp5 zau
def h76z (x0:Int):Option (Bool×Unit):=b76z (rkF 200) x0
theorem q8w {n:Nat} (x0:Int):LeO (b76z (rkF n) x0) (b76z rkO x0):=by
 unfold b76z
 repeat' first | with_reducible exact qag | with_reducible refine qan ?_ | with_reducible refine qah ?_ ?_ | with_reducible refine qaj ?_ | with_reducible refine qap ?_ ?_ | (refine qao fun s=>?_;try dsimp only)
theorem za1 (x0:Int):LeO (h76z x0) (g76z x0):=q8w x0
def qpt:Con:=mkC 76 [.d I64] [.bool] (fun (x0:Int)=>[okO (h76z x0)]) (fun (x0:Int)=>@getO ((Bool×Unit)) _ (h76z x0))
theorem q7m:qpt.goal Tryz.prog (spOf []) q0z [] lm30:=by
 have e:(∀ (x0:Int),okO (h76z x0)→g76z x0=some (getO (h76z x0)))=qpt.goal Tryz.prog (spOf []) q0z [] lm30:=by kernel_rfl
 rw [← e];intro x0 h;exact qaz (za1 x0) h
theorem ze2:qpt.Ok Tryz.prog:=Con.of_goal mixed okN qpt q7m
def h66z (x0:Option GD) (x1:Int):Option (Int×Unit):=b66z (rkF 200) x0 x1
theorem q7n {n:Nat} (x0:Option GD) (x1:Int):LeO (b66z (rkF n) x0 x1) (b66z rkO x0 x1):=by
 unfold b66z
 repeat' first | with_reducible exact qag | with_reducible refine qan ?_ | with_reducible refine qah ?_ ?_ | with_reducible refine qaj ?_ | with_reducible refine qap ?_ ?_ | (refine qao fun s=>?_;try dsimp only)
theorem zbn (x0:Option GD) (x1:Int):LeO (h66z x0 x1) (g66z x0 x1):=q7n x0 x1
def qfr:Con:=mkC 66 [.d (.optr GT),.d I64] [I64] (fun (x0:Option GD) (x1:Int)=>[okO (h66z x0 x1)]) (fun (x0:Option GD) (x1:Int)=>@getO ((Int×Unit)) _ (h66z x0 x1))
theorem q9w:qfr.goal Tryz.prog (spOf []) q0i [] lm30:=by
 have e:(∀ (x0:Option GD) (x1:Int),okO (h66z x0 x1)→g66z x0 x1=some (getO (h66z x0 x1)))=qfr.goal Tryz.prog (spOf []) q0i [] lm30:=by kernel_rfl
 rw [← e];intro x0 x1 h;exact qaz (zbn x0 x1) h
theorem q0k:qfr.Ok Tryz.prog:=Con.of_goal mixed okN qfr q9w
theorem qyj {n:Nat} (x0:Option GD) (d1:Int×List Int×Unit) (d2:Int×Int×List Int×Unit):LeO (qro (rkF n) x0 d1 d2) (qro rkO x0 d1 d2):=by
 unfold qro
 repeat' first | with_reducible exact qag | with_reducible apply qzm | with_reducible refine qan ?_ | with_reducible refine qah ?_ ?_ | with_reducible refine qaj ?_ | with_reducible refine qap ?_ ?_ | (refine qao fun s=>?_;try dsimp only)
def h34z (x0:Option GD):Option (List Int×Unit):=b34z (rkF 200) x0
theorem qzm {n:Nat} (x0:Option GD):LeO (b34z (rkF n) x0) (b34z rkO x0):=by
 unfold b34z
 repeat' first | with_reducible exact qag | with_reducible apply qyj | with_reducible refine qan ?_ | with_reducible refine qah ?_ ?_ | with_reducible refine qaj ?_ | with_reducible refine qap ?_ ?_ | (refine qao fun s=>?_;try dsimp only)
theorem q9i (x0:Option GD):LeO (h34z x0) (g34z x0):=qzm x0
def qqs:Con:=mkC 34 [.d (.optr GT)] [LI] (fun (x0:Option GD)=>[okO (h34z x0)]) (fun (x0:Option GD)=>@getO ((List Int×Unit)) _ (h34z x0))
theorem zbo:qqs.goal Tryz.prog (spOf []) q1r [] lm30:=by
 have e:(∀ (x0:Option GD),okO (h34z x0)→g34z x0=some (getO (h34z x0)))=qqs.goal Tryz.prog (spOf []) q1r [] lm30:=by kernel_rfl
 rw [← e];intro x0 h;exact qaz (q9i x0) h
theorem zfv:qqs.Ok Tryz.prog:=Con.of_goal mixed okN qqs zbo
def qs0 (x0 x1:Int):Option (Int×Int×Unit):=q3u (rkF 200) x0 x1
theorem q6j {n:Nat} (x0 x1:Int):LeO (q3u (rkF n) x0 x1) (q3u rkO x0 x1):=by
 unfold q3u
 repeat' first | with_reducible exact qag | with_reducible refine qan ?_ | with_reducible refine qah ?_ ?_ | with_reducible refine qaj ?_ | with_reducible refine qap ?_ ?_ | (refine qao fun s=>?_;try dsimp only)
theorem q4c (x0 x1:Int):LeO (qs0 x0 x1) (zd3 x0 x1):=q6j x0 x1
def qlb:Con:=mkC 134 [.d (.int .u64),.d (.int .u64)] [.int .u64,.int .u64] (fun (x0 x1:Int)=>[okO (qs0 x0 x1)]) (fun (x0 x1:Int)=>@getO ((Int×Int×Unit)) _ (qs0 x0 x1))
theorem q6l:qlb.goal Tryz.prog (spOf []) qvt [] lm30:=by
 have e:(∀ (x0 x1:Int),okO (qs0 x0 x1)→zd3 x0 x1=some (getO (qs0 x0 x1)))=qlb.goal Tryz.prog (spOf []) qvt [] lm30:=by kernel_rfl
 rw [← e];intro x0 x1 h;exact qaz (q4c x0 x1) h
theorem zdw:qlb.Ok Tryz.prog:=Con.of_goal mixed okN qlb q6l
def h30z (x0:List Int):Option (List Int×Unit):=b30z (rkF 200) x0
theorem zbr {n:Nat} (x0:List Int):LeO (b30z (rkF n) x0) (b30z rkO x0):=by
 unfold b30z
 repeat' first | with_reducible exact qag | with_reducible refine qan ?_ | with_reducible refine qah ?_ ?_ | with_reducible refine qaj ?_ | with_reducible refine qap ?_ ?_ | (refine qao fun s=>?_;try dsimp only)
theorem q9o (x0:List Int):LeO (h30z x0) (g30z x0):=zbr x0
def qqg:SCon:=mkS 30 [.slf 0 1] [.arr I64 true] [] [.arr I64 true] (fun (x0:List Int)=>[okO (h30z x0)]) (fun (x0:List Int)=>@getO ((List Int×Unit)) _ (h30z x0))
theorem zbz:qqg.goal Tryz.prog (spS [] []) q2l [] lm30:=by
 have e:(∀ (x0:List Int),okO (h30z x0)→g30z x0=some (getO (h30z x0)))=qqg.goal Tryz.prog (spS [] []) q2l [] lm30:=by kernel_rfl
 rw [← e];intro x0 h;exact qaz (q9o x0) h
theorem zev:qqg.Ok Tryz.prog:=SCon.of_goal mixed okN okS0 qqg zbz
def h61z (x0:List Int):Option (Int×Unit):=b61z (rkF 200) x0
theorem zab {n:Nat} (x0:List Int):LeO (b61z (rkF n) x0) (b61z rkO x0):=by
 unfold b61z
 repeat' first | with_reducible exact qag | with_reducible refine qan ?_ | with_reducible refine qah ?_ ?_ | with_reducible refine qaj ?_ | with_reducible refine qap ?_ ?_ | (refine qao fun s=>?_;try dsimp only)
theorem zbi (x0:List Int):LeO (h61z x0) (g61z x0):=zab x0
def qp4:Con:=mkC 61 [.d LI] [I64] (fun (x0:List Int)=>[okO (h61z x0)]) (fun (x0:List Int)=>@getO ((Int×Unit)) _ (h61z x0))
theorem q8l:qp4.goal Tryz.prog (spOf []) q23 [] lm30:=by
 have e:(∀ (x0:List Int),okO (h61z x0)→g61z x0=some (getO (h61z x0)))=qp4.goal Tryz.prog (spOf []) q23 [] lm30:=by kernel_rfl
 rw [← e];intro x0 h;exact qaz (zbi x0) h
theorem zfu:qp4.Ok Tryz.prog:=Con.of_goal mixed okN qp4 q8l
def h22z (x0 x1:List Int):Option (Bool×Unit):=b22z (rkF 200) x0 x1
theorem zaz {n:Nat} (x0 x1:List Int):LeO (b22z (rkF n) x0 x1) (b22z rkO x0 x1):=by
 unfold b22z
 repeat' first | with_reducible exact qag | with_reducible refine qan ?_ | with_reducible refine qah ?_ ?_ | with_reducible refine qaj ?_ | with_reducible refine qap ?_ ?_ | (refine qao fun s=>?_;try dsimp only)
theorem q7q (x0 x1:List Int):LeO (h22z x0 x1) (g22z x0 x1):=zaz x0 x1
def qly:Con:=mkC 22 [.d LI,.d LI] [.bool] (fun (x0 x1:List Int)=>[okO (h22z x0 x1)]) (fun (x0 x1:List Int)=>@getO ((Bool×Unit)) _ (h22z x0 x1))
theorem zb0:qly.goal Tryz.prog (spOf []) q3o [] lm30:=by
 have e:(∀ (x0 x1:List Int),okO (h22z x0 x1)→g22z x0 x1=some (getO (h22z x0 x1)))=qly.goal Tryz.prog (spOf []) q3o [] lm30:=by kernel_rfl
 rw [← e];intro x0 x1 h;exact qaz (q7q x0 x1) h
theorem zc4:qly.Ok Tryz.prog:=Con.of_goal mixed okN qly zb0
def h11z (x0:Int):Option (List (List Int)×Unit):=b11z (rkF 200) x0
theorem q84 {n:Nat} (x0:Int):LeO (b11z (rkF n) x0) (b11z rkO x0):=by
 unfold b11z
 repeat' first | with_reducible exact qag | with_reducible refine qan ?_ | with_reducible refine qah ?_ ?_ | with_reducible refine qaj ?_ | with_reducible refine qap ?_ ?_ | (refine qao fun s=>?_;try dsimp only)
theorem q8y (x0:Int):LeO (h11z x0) (g11z x0):=q84 x0
def qos:Con:=mkC 11 [.d I64] [LLI] (fun (x0:Int)=>[okO (h11z x0)]) (fun (x0:Int)=>@getO ((List (List Int)×Unit)) _ (h11z x0))
theorem zai:qos.goal Tryz.prog (spOf []) q2y [7010003,7010004] lm30:=by
 have e:(∀ (x0:Int),okO (h11z x0)→g11z x0=some (getO (h11z x0)))=qos.goal Tryz.prog (spOf []) q2y [7010003,7010004] lm30:=by kernel_rfl
 rw [← e];intro x0 h;exact qaz (q8y x0) h
theorem zew:qos.Ok Tryz.prog:=Con.of_goal mixed okN qos zai
def b62z (R:Rk) (x0 x1:Int):Option (Int×Unit):=R.gd (okO (h98z x0)) (R.gd (okO (h98z x1)) (bif (getO (h98z x0)).1 then bif (getO (h98z x1)).1 then some (((0:Int),()):Int×Unit) else some (((-1:Int),()):Int×Unit) else bif (getO (h98z x1)).1 then some (((1:Int),()):Int×Unit) else bif ilt x0 x1 then some (((-1:Int),()):Int×Unit) else bif ilt x1 x0 then some (((1:Int),()):Int×Unit) else some (((0:Int),()):Int×Unit)))
def g62z (x0 x1:Int):Option (Int×Unit):=b62z rkO x0 x1
def q1g:List LSh:=([]:List LSh)
def b72z (R:Rk) (x0:Option GD) (x1 x2:Int):Option (Int×Unit):=R.gd (Option.isSome x0=true) (R.gd (Option.isSome x0=true) (R.gd ((0:Int)≤x1∧x1<(↑(List.length (Option.getD x0 (((0:Int),([]:List E5),([]:List (E5×Int)),([]:List (List Int)),([]:List Int),([]:List Int),(0:Int),()):GD)).2.1):Int)) (R.gd (Option.isSome x0=true) (R.gd ((0:Int)≤x2∧x2<(↑(List.length (Option.getD x0 (((0:Int),([]:List E5),([]:List (E5×Int)),([]:List (List Int)),([]:List Int),([]:List Int),(0:Int),()):GD)).2.1):Int)) (R.gd (okO (h41z (List.getD (Option.getD x0 (((0:Int),([]:List E5),([]:List (E5×Int)),([]:List (List Int)),([]:List Int),([]:List Int),(0:Int),()):GD)).2.1 (Int.toNat x1) z5) (List.getD (Option.getD x0 (((0:Int),([]:List E5),([]:List (E5×Int)),([]:List (List Int)),([]:List Int),([]:List Int),(0:Int),()):GD)).2.1 (Int.toNat x2) z5))) (some ((Option.getD (α:=Int) (qdw P5 (Ty.int .i64) ((Option.getD x0 (((0:Int),([]:List E5),([]:List (E5×Int)),([]:List (List Int)),([]:List Int),([]:List Int),(0:Int),()):GD)).2.2.1:List (E5×Int)) ((getO (h41z (List.getD (Option.getD x0 (((0:Int),([]:List E5),([]:List (E5×Int)),([]:List (List Int)),([]:List Int),([]:List Int),(0:Int),()):GD)).2.1 (Int.toNat x1) z5) (List.getD (Option.getD x0 (((0:Int),([]:List E5),([]:List (E5×Int)),([]:List (List Int)),([]:List Int),([]:List Int),(0:Int),()):GD)).2.1 (Int.toNat x2) z5))).1:E5)) (0:Int),()):Int×Unit)))))))
def g72z (x0:Option GD) (x1 x2:Int):Option (Int×Unit):=b72z rkO x0 x1 x2
def q2s:List LSh:=([]:List LSh)
def b67z (R:Rk) (x0:Option GD) (x1:Int):Option (Int×Unit):=R.wh (fun (d2:Int×Unit)=>R.gd (okO (h66z x0 (wr .i64 (d2.1*x1)))) (bif !ieq (getO (h66z x0 (wr .i64 (d2.1*x1)))).1 (1:Int) then some (Lp.go ((wr .i64 (d2.1+(1:Int)),()):Int×Unit)) else some (Lp.out ((d2.1,()):Int×Unit)))) (((1:Int),()):Int×Unit)
def g67z (x0:Option GD) (x1:Int):Option (Int×Unit):=b67z rkO x0 x1
def qz0:List LSh:=LSh.mk (((5,TV.v (Ty.int .i64)):Nat×TV)::([]:List (Nat×TV))) ([]:List TB)::([]:List LSh)
def qzr (R:Rk) (x0 x1:Int):Option (Int×Int×Unit):=R.gd (okO (qs0 x0 x1)) (some (((getO (qs0 x0 x1)).1,(getO (qs0 x0 x1)).2.1,()):Int×Int×Unit))
def zef (x0 x1:Int):Option (Int×Int×Unit):=qzr rkO x0 x1
def qw1:List LSh:=([]:List LSh)
def h62z (x0 x1:Int):Option (Int×Unit):=b62z (rkF 200) x0 x1
theorem q9u {n:Nat} (x0 x1:Int):LeO (b62z (rkF n) x0 x1) (b62z rkO x0 x1):=by
 unfold b62z
 repeat' first | with_reducible exact qag | with_reducible refine qan ?_ | with_reducible refine qah ?_ ?_ | with_reducible refine qaj ?_ | with_reducible refine qap ?_ ?_ | (refine qao fun s=>?_;try dsimp only)
theorem q88 (x0 x1:Int):LeO (h62z x0 x1) (g62z x0 x1):=q9u x0 x1
def qio:Con:=mkC 62 [.d I64,.d I64] [I64] (fun (x0 x1:Int)=>[okO (h62z x0 x1)]) (fun (x0 x1:Int)=>@getO ((Int×Unit)) _ (h62z x0 x1))
theorem zbl:qio.goal Tryz.prog (spOf [qp5]) q1g [] lm30:=by
 have e:(∀ (x0 x1:Int),okO (h62z x0 x1)→g62z x0 x1=some (getO (h62z x0 x1)))=qio.goal Tryz.prog (spOf [qp5]) q1g [] lm30:=by kernel_rfl
 rw [← e];intro x0 x1 h;exact qaz (q88 x0 x1) h
theorem zb2:qio.Ok Tryz.prog:=Con.of_goal mixed (okC zfe okN) qio zbl
def h72z (x0:Option GD) (x1 x2:Int):Option (Int×Unit):=b72z (rkF 200) x0 x1 x2
theorem q9t {n:Nat} (x0:Option GD) (x1 x2:Int):LeO (b72z (rkF n) x0 x1 x2) (b72z rkO x0 x1 x2):=by
 unfold b72z
 repeat' first | with_reducible exact qag | with_reducible refine qan ?_ | with_reducible refine qah ?_ ?_ | with_reducible refine qaj ?_ | with_reducible refine qap ?_ ?_ | (refine qao fun s=>?_;try dsimp only)
theorem zcr (x0:Option GD) (x1 x2:Int):LeO (h72z x0 x1 x2) (g72z x0 x1 x2):=q9t x0 x1 x2
def qg0:Con:=mkC 72 [.d (.optr GT),.d I64,.d I64] [I64] (fun (x0:Option GD) (x1 x2:Int)=>[okO (h72z x0 x1 x2)]) (fun (x0:Option GD) (x1 x2:Int)=>@getO ((Int×Unit)) _ (h72z x0 x1 x2))
theorem q74:qg0.goal Tryz.prog (spOf [qlz]) q2s [] lm30:=by
 have e:(∀ (x0:Option GD) (x1 x2:Int),okO (h72z x0 x1 x2)→g72z x0 x1 x2=some (getO (h72z x0 x1 x2)))=qg0.goal Tryz.prog (spOf [qlz]) q2s [] lm30:=by kernel_rfl
 rw [← e];intro x0 x1 x2 h;exact qaz (zcr x0 x1 x2) h
theorem q5s:qg0.Ok Tryz.prog:=Con.of_goal mixed (okC zc5 okN) qg0 q74
def h67z (x0:Option GD) (x1:Int):Option (Int×Unit):=b67z (rkF 200) x0 x1
theorem zbh {n:Nat} (x0:Option GD) (x1:Int):LeO (b67z (rkF n) x0 x1) (b67z rkO x0 x1):=by
 unfold b67z
 repeat' first | with_reducible exact qag | with_reducible refine qan ?_ | with_reducible refine qah ?_ ?_ | with_reducible refine qaj ?_ | with_reducible refine qap ?_ ?_ | (refine qao fun s=>?_;try dsimp only)
theorem q7w (x0:Option GD) (x1:Int):LeO (h67z x0 x1) (g67z x0 x1):=zbh x0 x1
def qii:Con:=mkC 67 [.d (.optr GT),.d I64] [I64] (fun (x0:Option GD) (x1:Int)=>[okO (h67z x0 x1)]) (fun (x0:Option GD) (x1:Int)=>@getO ((Int×Unit)) _ (h67z x0 x1))
theorem q71:qii.goal Tryz.prog (spOf [qfr]) qz0 [] lm30:=by
 have e:(∀ (x0:Option GD) (x1:Int),okO (h67z x0 x1)→g67z x0 x1=some (getO (h67z x0 x1)))=qii.goal Tryz.prog (spOf [qfr]) qz0 [] lm30:=by kernel_rfl
 rw [← e];intro x0 x1 h;exact qaz (q7w x0 x1) h
theorem q9q:qii.Ok Tryz.prog:=Con.of_goal mixed (okC q0k okN) qii q71
def qbs (x0 x1:Int):Option (Int×Int×Unit):=qzr (rkF 200) x0 x1
theorem q4y {n:Nat} (x0 x1:Int):LeO (qzr (rkF n) x0 x1) (qzr rkO x0 x1):=by
 unfold qzr
 repeat' first | with_reducible exact qag | with_reducible refine qan ?_ | with_reducible refine qah ?_ ?_ | with_reducible refine qaj ?_ | with_reducible refine qap ?_ ?_ | (refine qao fun s=>?_;try dsimp only)
theorem q5o (x0 x1:Int):LeO (qbs x0 x1) (zef x0 x1):=q4y x0 x1
def qkx:Con:=mkC 110 [.d (.int .u64),.d (.int .u64)] [.int .u64,.int .u64] (fun (x0 x1:Int)=>[okO (qbs x0 x1)]) (fun (x0 x1:Int)=>@getO ((Int×Int×Unit)) _ (qbs x0 x1))
theorem q5m:qkx.goal Tryz.prog (spOf [qlb]) qw1 [] lm30:=by
 have e:(∀ (x0 x1:Int),okO (qbs x0 x1)→zef x0 x1=some (getO (qbs x0 x1)))=qkx.goal Tryz.prog (spOf [qlb]) qw1 [] lm30:=by kernel_rfl
 rw [← e];intro x0 x1 h;exact qaz (q5o x0 x1) h
theorem zdj:qkx.Ok Tryz.prog:=Con.of_goal mixed (okC zdw okN) qkx q5m
def b44z (R:Rk) (x0 x1:List Int):Option (Int×Unit):=R.wh (fun (d2:Int×Unit)=>bif ilt d2.1 (↑(List.length x0):Int) then R.gd ((0:Int)≤d2.1∧d2.1<(↑(List.length x0):Int)) (bif ile (↑(List.length x1):Int) d2.1 then some (Lp.out (((1:Int),()):Int×Unit)) else R.gd ((0:Int)≤d2.1∧d2.1<(↑(List.length x1):Int)) (R.gd (okO (h62z (List.getD x0 (Int.toNat d2.1) (0:Int)) (List.getD x1 (Int.toNat d2.1) (0:Int)))) (bif !ieq (getO (h62z (List.getD x0 (Int.toNat d2.1) (0:Int)) (List.getD x1 (Int.toNat d2.1) (0:Int)))).1 (0:Int) then some (Lp.out (((getO (h62z (List.getD x0 (Int.toNat d2.1) (0:Int)) (List.getD x1 (Int.toNat d2.1) (0:Int)))).1,()):Int×Unit)) else some (Lp.go ((wr .i64 (d2.1+(1:Int)),()):Int×Unit))))) else bif ilt (↑(List.length x0):Int) (↑(List.length x1):Int) then some (Lp.out (((-1:Int),()):Int×Unit)) else some (Lp.out (((0:Int),()):Int×Unit))) (((0:Int),()):Int×Unit)
def g44z (x0 x1:List Int):Option (Int×Unit):=b44z rkO x0 x1
def q03:List LSh:=LSh.mk (((11,TV.v (Ty.int .i64)):Nat×TV)::([]:List (Nat×TV))) ([]:List TB)::([]:List LSh)
def b73z (R:Rk) (x0:Option GD) (x1:Int):Option (Int×Unit):=R.gd (Option.isSome x0=true) (R.wh (fun (d2:Int×Unit)=>bif ilt d2.1 (↑(List.length (Option.getD x0 (((0:Int),([]:List E5),([]:List (E5×Int)),([]:List (List Int)),([]:List Int),([]:List Int),(0:Int),()):GD)).2.1):Int) then R.gd (okO (h72z x0 x1 d2.1)) (bif ieq (getO (h72z x0 x1 d2.1)).1 (0:Int) then some (Lp.out ((d2.1,()):Int×Unit)) else some (Lp.go ((wr .i64 (d2.1+(1:Int)),()):Int×Unit))) else some (Lp.out (((0:Int),()):Int×Unit))) (((0:Int),()):Int×Unit))
def g73z (x0:Option GD) (x1:Int):Option (Int×Unit):=b73z rkO x0 x1
def qy5:List LSh:=LSh.mk (((11,TV.v (Ty.int .i64)):Nat×TV)::([]:List (Nat×TV))) ([]:List TB)::([]:List LSh)
def b75z (R:Rk) (x0:Option GD) (x1:Int):Option (Int×Unit):=R.wh (fun (d2:Int×Int×Unit)=>bif !ieq d2.2.1 (0:Int) then R.gd (okO (h72z x0 d2.2.1 x1)) (some (Lp.go ((wr .i64 (d2.1+(1:Int)),(getO (h72z x0 d2.2.1 x1)).1,()):Int×Int×Unit))) else some (Lp.out ((d2.1,()):Int×Unit))) (((1:Int),x1,()):Int×Int×Unit)
def g75z (x0:Option GD) (x1:Int):Option (Int×Unit):=b75z rkO x0 x1
def q1c:List LSh:=LSh.mk (((5,TV.v (Ty.int .i64)):Nat×TV)::((6,TV.v (Ty.int .i64)):Nat×TV)::([]:List (Nat×TV))) ([]:List TB)::([]:List LSh)
def b71z (R:Rk) (x0:List Int) (x1:Int):Option (List Int×Unit):=bif ilt x1 (0:Int) then R.gd False (R.gd False (R.gd (okO (qbs (wr IntKind.u64 (↑(List.length x0):Int)) (wr IntKind.u64 x1))) (R.gd ((!ilt (0:Int) (getO (qbs (wr IntKind.u64 (↑(List.length x0):Int)) (wr IntKind.u64 x1))).1)=true→(!ilt (0:Int) (getO (qbs (wr IntKind.u64 (↑(List.length x0):Int)) (wr IntKind.u64 x1))).1)=true) (R.gd (ilt (0:Int) (getO (qbs (wr IntKind.u64 (↑(List.length x0):Int)) (wr IntKind.u64 x1))).1=false→(!ilt (0:Int) (getO (qbs (wr IntKind.u64 (↑(List.length x0):Int)) (wr IntKind.u64 x1))).1)=true) (bif bif ilt (0:Int) (getO (qbs (wr IntKind.u64 (↑(List.length x0):Int)) (wr IntKind.u64 x1))).1 then true else ilt (9223372036854775807:Int) (getO (qbs (wr IntKind.u64 (↑(List.length x0):Int)) (wr IntKind.u64 x1))).2.1 then R.gd False (R.gd False (R.gd ((0:Int)≤wr .i64 (getO (qbs (wr IntKind.u64 (↑(List.length x0):Int)) (wr IntKind.u64 x1))).2.1∧wr .i64 (getO (qbs (wr IntKind.u64 (↑(List.length x0):Int)) (wr IntKind.u64 x1))).2.1≤wr .i64 (getO (qbs (wr IntKind.u64 (↑(List.length x0):Int)) (wr IntKind.u64 x1))).2.1∧wr .i64 (getO (qbs (wr IntKind.u64 (↑(List.length x0):Int)) (wr IntKind.u64 x1))).2.1*(8:Int)≤(1099511627776:Int)) (R.gd ((0:Nat)+Int.toNat (wr .i64 (getO (qbs (wr IntKind.u64 (↑(List.length x0):Int)) (wr IntKind.u64 x1))).2.1)≤List.length (List.replicate (Int.toNat (wr .i64 (getO (qbs (wr IntKind.u64 (↑(List.length x0):Int)) (wr IntKind.u64 x1))).2.1)) (0:Int))) (R.wh (fun (d2:Int×Int×List Int×Unit)=>bif ilt d2.2.1 (↑(Int.toNat d2.1):Int) then R.gd ((0:Int)≤d2.2.1∧d2.2.1≤(↑(Int.toNat d2.1):Int)) (R.gd ((0:Int)≤d2.2.1∧d2.2.1≤(↑(Int.toNat d2.1):Int)) (R.gd ((0:Nat)+Int.toNat d2.2.1≤List.length d2.2.2.1) (R.gd ((0:Nat)+Int.toNat d2.2.1+(Int.toNat d2.1-Int.toNat d2.2.1)≤List.length d2.2.2.1) (some (Lp.go (((↑(Int.toNat d2.1):Int),wr .i64 (d2.2.1+(↑(Nat.min (List.length (List.take (Int.toNat d2.2.1) (List.drop (0:Nat) d2.2.2.1))) (Int.toNat d2.1-Int.toNat d2.2.1)):Int)),setMany d2.2.2.1 ((0:Nat)+Int.toNat d2.2.1) (List.take (Int.toNat d2.1-Int.toNat d2.2.1) (List.take (Int.toNat d2.2.1) (List.drop (0:Nat) d2.2.2.1))),()):Int×Int×List Int×Unit)))))) else R.gd (Int.toNat d2.1=List.length d2.2.2.1) (some (Lp.out ((d2.2.2.1,()):List Int×Unit)))) (((↑(Int.toNat (wr .i64 (getO (qbs (wr IntKind.u64 (↑(List.length x0):Int)) (wr IntKind.u64 x1))).2.1)):Int),(↑(Nat.min (List.length x0) (Int.toNat (wr .i64 (getO (qbs (wr IntKind.u64 (↑(List.length x0):Int)) (wr IntKind.u64 x1))).2.1))):Int),setMany (List.replicate (Int.toNat (wr .i64 (getO (qbs (wr IntKind.u64 (↑(List.length x0):Int)) (wr IntKind.u64 x1))).2.1)) (0:Int)) (0:Nat) (List.take (Int.toNat (wr .i64 (getO (qbs (wr IntKind.u64 (↑(List.length x0):Int)) (wr IntKind.u64 x1))).2.1)) x0),()):Int×Int×List Int×Unit))))) else R.gd ((0:Int)≤wr .i64 (getO (qbs (wr IntKind.u64 (↑(List.length x0):Int)) (wr IntKind.u64 x1))).2.1∧wr .i64 (getO (qbs (wr IntKind.u64 (↑(List.length x0):Int)) (wr IntKind.u64 x1))).2.1≤wr .i64 (getO (qbs (wr IntKind.u64 (↑(List.length x0):Int)) (wr IntKind.u64 x1))).2.1∧wr .i64 (getO (qbs (wr IntKind.u64 (↑(List.length x0):Int)) (wr IntKind.u64 x1))).2.1*(8:Int)≤(1099511627776:Int)) (R.gd ((0:Nat)+Int.toNat (wr .i64 (getO (qbs (wr IntKind.u64 (↑(List.length x0):Int)) (wr IntKind.u64 x1))).2.1)≤List.length (List.replicate (Int.toNat (wr .i64 (getO (qbs (wr IntKind.u64 (↑(List.length x0):Int)) (wr IntKind.u64 x1))).2.1)) (0:Int))) (R.wh (fun (d2:Int×Int×List Int×Unit)=>bif ilt d2.2.1 (↑(Int.toNat d2.1):Int) then R.gd ((0:Int)≤d2.2.1∧d2.2.1≤(↑(Int.toNat d2.1):Int)) (R.gd ((0:Int)≤d2.2.1∧d2.2.1≤(↑(Int.toNat d2.1):Int)) (R.gd ((0:Nat)+Int.toNat d2.2.1≤List.length d2.2.2.1) (R.gd ((0:Nat)+Int.toNat d2.2.1+(Int.toNat d2.1-Int.toNat d2.2.1)≤List.length d2.2.2.1) (some (Lp.go (((↑(Int.toNat d2.1):Int),wr .i64 (d2.2.1+(↑(Nat.min (List.length (List.take (Int.toNat d2.2.1) (List.drop (0:Nat) d2.2.2.1))) (Int.toNat d2.1-Int.toNat d2.2.1)):Int)),setMany d2.2.2.1 ((0:Nat)+Int.toNat d2.2.1) (List.take (Int.toNat d2.1-Int.toNat d2.2.1) (List.take (Int.toNat d2.2.1) (List.drop (0:Nat) d2.2.2.1))),()):Int×Int×List Int×Unit)))))) else R.gd (Int.toNat d2.1=List.length d2.2.2.1) (some (Lp.out ((d2.2.2.1,()):List Int×Unit)))) (((↑(Int.toNat (wr .i64 (getO (qbs (wr IntKind.u64 (↑(List.length x0):Int)) (wr IntKind.u64 x1))).2.1)):Int),(↑(Nat.min (List.length x0) (Int.toNat (wr .i64 (getO (qbs (wr IntKind.u64 (↑(List.length x0):Int)) (wr IntKind.u64 x1))).2.1))):Int),setMany (List.replicate (Int.toNat (wr .i64 (getO (qbs (wr IntKind.u64 (↑(List.length x0):Int)) (wr IntKind.u64 x1))).2.1)) (0:Int)) (0:Nat) (List.take (Int.toNat (wr .i64 (getO (qbs (wr IntKind.u64 (↑(List.length x0):Int)) (wr IntKind.u64 x1))).2.1)) x0),()):Int×Int×List Int×Unit)))))))) else R.gd (okO (qbs (wr IntKind.u64 (↑(List.length x0):Int)) (wr IntKind.u64 x1))) (R.gd ((!ilt (0:Int) (getO (qbs (wr IntKind.u64 (↑(List.length x0):Int)) (wr IntKind.u64 x1))).1)=true→(!ilt (0:Int) (getO (qbs (wr IntKind.u64 (↑(List.length x0):Int)) (wr IntKind.u64 x1))).1)=true) (R.gd (ilt (0:Int) (getO (qbs (wr IntKind.u64 (↑(List.length x0):Int)) (wr IntKind.u64 x1))).1=false→(!ilt (0:Int) (getO (qbs (wr IntKind.u64 (↑(List.length x0):Int)) (wr IntKind.u64 x1))).1)=true) (bif bif ilt (0:Int) (getO (qbs (wr IntKind.u64 (↑(List.length x0):Int)) (wr IntKind.u64 x1))).1 then true else ilt (9223372036854775807:Int) (getO (qbs (wr IntKind.u64 (↑(List.length x0):Int)) (wr IntKind.u64 x1))).2.1 then R.gd False (R.gd False (R.gd ((0:Int)≤wr .i64 (getO (qbs (wr IntKind.u64 (↑(List.length x0):Int)) (wr IntKind.u64 x1))).2.1∧wr .i64 (getO (qbs (wr IntKind.u64 (↑(List.length x0):Int)) (wr IntKind.u64 x1))).2.1≤wr .i64 (getO (qbs (wr IntKind.u64 (↑(List.length x0):Int)) (wr IntKind.u64 x1))).2.1∧wr .i64 (getO (qbs (wr IntKind.u64 (↑(List.length x0):Int)) (wr IntKind.u64 x1))).2.1*(8:Int)≤(1099511627776:Int)) (R.gd ((0:Nat)+Int.toNat (wr .i64 (getO (qbs (wr IntKind.u64 (↑(List.length x0):Int)) (wr IntKind.u64 x1))).2.1)≤List.length (List.replicate (Int.toNat (wr .i64 (getO (qbs (wr IntKind.u64 (↑(List.length x0):Int)) (wr IntKind.u64 x1))).2.1)) (0:Int))) (R.wh (fun (d2:Int×Int×List Int×Unit)=>bif ilt d2.2.1 (↑(Int.toNat d2.1):Int) then R.gd ((0:Int)≤d2.2.1∧d2.2.1≤(↑(Int.toNat d2.1):Int)) (R.gd ((0:Int)≤d2.2.1∧d2.2.1≤(↑(Int.toNat d2.1):Int)) (R.gd ((0:Nat)+Int.toNat d2.2.1≤List.length d2.2.2.1) (R.gd ((0:Nat)+Int.toNat d2.2.1+(Int.toNat d2.1-Int.toNat d2.2.1)≤List.length d2.2.2.1) (some (Lp.go (((↑(Int.toNat d2.1):Int),wr .i64 (d2.2.1+(↑(Nat.min (List.length (List.take (Int.toNat d2.2.1) (List.drop (0:Nat) d2.2.2.1))) (Int.toNat d2.1-Int.toNat d2.2.1)):Int)),setMany d2.2.2.1 ((0:Nat)+Int.toNat d2.2.1) (List.take (Int.toNat d2.1-Int.toNat d2.2.1) (List.take (Int.toNat d2.2.1) (List.drop (0:Nat) d2.2.2.1))),()):Int×Int×List Int×Unit)))))) else R.gd (Int.toNat d2.1=List.length d2.2.2.1) (some (Lp.out ((d2.2.2.1,()):List Int×Unit)))) (((↑(Int.toNat (wr .i64 (getO (qbs (wr IntKind.u64 (↑(List.length x0):Int)) (wr IntKind.u64 x1))).2.1)):Int),(↑(Nat.min (List.length x0) (Int.toNat (wr .i64 (getO (qbs (wr IntKind.u64 (↑(List.length x0):Int)) (wr IntKind.u64 x1))).2.1))):Int),setMany (List.replicate (Int.toNat (wr .i64 (getO (qbs (wr IntKind.u64 (↑(List.length x0):Int)) (wr IntKind.u64 x1))).2.1)) (0:Int)) (0:Nat) (List.take (Int.toNat (wr .i64 (getO (qbs (wr IntKind.u64 (↑(List.length x0):Int)) (wr IntKind.u64 x1))).2.1)) x0),()):Int×Int×List Int×Unit))))) else R.gd ((0:Int)≤wr .i64 (getO (qbs (wr IntKind.u64 (↑(List.length x0):Int)) (wr IntKind.u64 x1))).2.1∧wr .i64 (getO (qbs (wr IntKind.u64 (↑(List.length x0):Int)) (wr IntKind.u64 x1))).2.1≤wr .i64 (getO (qbs (wr IntKind.u64 (↑(List.length x0):Int)) (wr IntKind.u64 x1))).2.1∧wr .i64 (getO (qbs (wr IntKind.u64 (↑(List.length x0):Int)) (wr IntKind.u64 x1))).2.1*(8:Int)≤(1099511627776:Int)) (R.gd ((0:Nat)+Int.toNat (wr .i64 (getO (qbs (wr IntKind.u64 (↑(List.length x0):Int)) (wr IntKind.u64 x1))).2.1)≤List.length (List.replicate (Int.toNat (wr .i64 (getO (qbs (wr IntKind.u64 (↑(List.length x0):Int)) (wr IntKind.u64 x1))).2.1)) (0:Int))) (R.wh (fun (d2:Int×Int×List Int×Unit)=>bif ilt d2.2.1 (↑(Int.toNat d2.1):Int) then R.gd ((0:Int)≤d2.2.1∧d2.2.1≤(↑(Int.toNat d2.1):Int)) (R.gd ((0:Int)≤d2.2.1∧d2.2.1≤(↑(Int.toNat d2.1):Int)) (R.gd ((0:Nat)+Int.toNat d2.2.1≤List.length d2.2.2.1) (R.gd ((0:Nat)+Int.toNat d2.2.1+(Int.toNat d2.1-Int.toNat d2.2.1)≤List.length d2.2.2.1) (some (Lp.go (((↑(Int.toNat d2.1):Int),wr .i64 (d2.2.1+(↑(Nat.min (List.length (List.take (Int.toNat d2.2.1) (List.drop (0:Nat) d2.2.2.1))) (Int.toNat d2.1-Int.toNat d2.2.1)):Int)),setMany d2.2.2.1 ((0:Nat)+Int.toNat d2.2.1) (List.take (Int.toNat d2.1-Int.toNat d2.2.1) (List.take (Int.toNat d2.2.1) (List.drop (0:Nat) d2.2.2.1))),()):Int×Int×List Int×Unit)))))) else R.gd (Int.toNat d2.1=List.length d2.2.2.1) (some (Lp.out ((d2.2.2.1,()):List Int×Unit)))) (((↑(Int.toNat (wr .i64 (getO (qbs (wr IntKind.u64 (↑(List.length x0):Int)) (wr IntKind.u64 x1))).2.1)):Int),(↑(Nat.min (List.length x0) (Int.toNat (wr .i64 (getO (qbs (wr IntKind.u64 (↑(List.length x0):Int)) (wr IntKind.u64 x1))).2.1))):Int),setMany (List.replicate (Int.toNat (wr .i64 (getO (qbs (wr IntKind.u64 (↑(List.length x0):Int)) (wr IntKind.u64 x1))).2.1)) (0:Int)) (0:Nat) (List.take (Int.toNat (wr .i64 (getO (qbs (wr IntKind.u64 (↑(List.length x0):Int)) (wr IntKind.u64 x1))).2.1)) x0),()):Int×Int×List Int×Unit))))))
def g71z (x0:List Int) (x1:Int):Option (List Int×Unit):=b71z rkO x0 x1
def qy8:List LSh:=LSh.mk (((7,TV.sl (0) (1) (0)):Nat×TV)::((8,TV.v (Ty.int .i64)):Nat×TV)::([]:List (Nat×TV))) (TB.arr (Ty.int .i64) true::([]:List TB))::([]:List LSh)
def h44z (x0 x1:List Int):Option (Int×Unit):=b44z (rkF 200) x0 x1
theorem q79 {n:Nat} (x0 x1:List Int):LeO (b44z (rkF n) x0 x1) (b44z rkO x0 x1):=by
 unfold b44z
 repeat' first | with_reducible exact qag | with_reducible refine qan ?_ | with_reducible refine qah ?_ ?_ | with_reducible refine qaj ?_ | with_reducible refine qap ?_ ?_ | (refine qao fun s=>?_;try dsimp only)
theorem q8o (x0 x1:List Int):LeO (h44z x0 x1) (g44z x0 x1):=q79 x0 x1
def qqj:Con:=mkC 44 [.d LI,.d LI] [I64] (fun (x0 x1:List Int)=>[okO (h44z x0 x1)]) (fun (x0 x1:List Int)=>@getO ((Int×Unit)) _ (h44z x0 x1))
theorem q81:qqj.goal Tryz.prog (spOf [qio]) q03 [] lm30:=by
 have e:(∀ (x0 x1:List Int),okO (h44z x0 x1)→g44z x0 x1=some (getO (h44z x0 x1)))=qqj.goal Tryz.prog (spOf [qio]) q03 [] lm30:=by kernel_rfl
 rw [← e];intro x0 x1 h;exact qaz (q8o x0 x1) h
theorem ze1:qqj.Ok Tryz.prog:=Con.of_goal mixed (okC zb2 okN) qqj q81
def h73z (x0:Option GD) (x1:Int):Option (Int×Unit):=b73z (rkF 200) x0 x1
theorem zat {n:Nat} (x0:Option GD) (x1:Int):LeO (b73z (rkF n) x0 x1) (b73z rkO x0 x1):=by
 unfold b73z
 repeat' first | with_reducible exact qag | with_reducible refine qan ?_ | with_reducible refine qah ?_ ?_ | with_reducible refine qaj ?_ | with_reducible refine qap ?_ ?_ | (refine qao fun s=>?_;try dsimp only)
theorem zbp (x0:Option GD) (x1:Int):LeO (h73z x0 x1) (g73z x0 x1):=zat x0 x1
def qpg:Con:=mkC 73 [.d (.optr GT),.d I64] [I64] (fun (x0:Option GD) (x1:Int)=>[okO (h73z x0 x1)]) (fun (x0:Option GD) (x1:Int)=>@getO ((Int×Unit)) _ (h73z x0 x1))
theorem q8i:qpg.goal Tryz.prog (spOf [qg0]) qy5 [] lm30:=by
 have e:(∀ (x0:Option GD) (x1:Int),okO (h73z x0 x1)→g73z x0 x1=some (getO (h73z x0 x1)))=qpg.goal Tryz.prog (spOf [qg0]) qy5 [] lm30:=by kernel_rfl
 rw [← e];intro x0 x1 h;exact qaz (zbp x0 x1) h
theorem zez:qpg.Ok Tryz.prog:=Con.of_goal mixed (okC q5s okN) qpg q8i
def h75z (x0:Option GD) (x1:Int):Option (Int×Unit):=b75z (rkF 200) x0 x1
theorem zcc {n:Nat} (x0:Option GD) (x1:Int):LeO (b75z (rkF n) x0 x1) (b75z rkO x0 x1):=by
 unfold b75z
 repeat' first | with_reducible exact qag | with_reducible refine qan ?_ | with_reducible refine qah ?_ ?_ | with_reducible refine qaj ?_ | with_reducible refine qap ?_ ?_ | (refine qao fun s=>?_;try dsimp only)
theorem q72 (x0:Option GD) (x1:Int):LeO (h75z x0 x1) (g75z x0 x1):=zcc x0 x1
def qpd:Con:=mkC 75 [.d (.optr GT),.d I64] [I64] (fun (x0:Option GD) (x1:Int)=>[okO (h75z x0 x1)]) (fun (x0:Option GD) (x1:Int)=>@getO ((Int×Unit)) _ (h75z x0 x1))
theorem zce:qpd.goal Tryz.prog (spOf [qg0]) q1c [] lm30:=by
 have e:(∀ (x0:Option GD) (x1:Int),okO (h75z x0 x1)→g75z x0 x1=some (getO (h75z x0 x1)))=qpd.goal Tryz.prog (spOf [qg0]) q1c [] lm30:=by kernel_rfl
 rw [← e];intro x0 x1 h;exact qaz (q72 x0 x1) h
theorem zfb:qpd.Ok Tryz.prog:=Con.of_goal mixed (okC q5s okN) qpd zce
def h71z (x0:List Int) (x1:Int):Option (List Int×Unit):=b71z (rkF 200) x0 x1
theorem zam {n:Nat} (x0:List Int) (x1:Int):LeO (b71z (rkF n) x0 x1) (b71z rkO x0 x1):=by
 unfold b71z
 repeat' first | with_reducible exact qag | with_reducible refine qan ?_ | with_reducible refine qah ?_ ?_ | with_reducible refine qaj ?_ | with_reducible refine qap ?_ ?_ | (refine qao fun s=>?_;try dsimp only)
theorem zaj (x0:List Int) (x1:Int):LeO (h71z x0 x1) (g71z x0 x1):=zam x0 x1
def qp9:SCon:=mkS 71 [.v LI,.v I64] [] [.slf 0 1] [.arr I64 true] (fun (x0:List Int) (x1:Int)=>[okO (h71z x0 x1)]) (fun (x0:List Int) (x1:Int)=>@getO ((List Int×Unit)) _ (h71z x0 x1))
theorem zac:qp9.goal Tryz.prog (spS [] [qkx]) qy8 [] lm30:=by
 have e:(∀ (x0:List Int) (x1:Int),okO (h71z x0 x1)→g71z x0 x1=some (getO (h71z x0 x1)))=qp9.goal Tryz.prog (spS [] [qkx]) qy8 [] lm30:=by kernel_rfl
 rw [← e];intro x0 x1 h;exact qaz (zaj x0 x1) h
theorem zfq:qp9.Ok Tryz.prog:=SCon.of_goal mixed (okC zdj okN) okS0 qp9 zac
def b43z (R:Rk) (x0 x1:E5):Option (Int×Unit):=R.gd ((5:Nat)≤(5:Nat)) (R.gd ((5:Nat)≤(5:Nat)) (R.gd (okO (h44z (fl5 x0) (fl5 x1))) (some (((getO (h44z (fl5 x0) (fl5 x1))).1,()):Int×Unit))))
def g43z (x0 x1:E5):Option (Int×Unit):=b43z rkO x0 x1
def qzn:List LSh:=([]:List LSh)
def b74z (R:Rk) (x0:Int) (x1:Option GD):Option (Bool×Unit):=R.gd (Option.isSome x1=true) (R.wh (fun (d2:Int×Unit)=>bif ilt d2.1 (↑(List.length (Option.getD x1 (((0:Int),([]:List E5),([]:List (E5×Int)),([]:List (List Int)),([]:List Int),([]:List Int),(0:Int),()):GD)).2.2.2.1):Int) then R.gd ((0:Int)≤d2.1∧d2.1<(↑(List.length (Option.getD x1 (((0:Int),([]:List E5),([]:List (E5×Int)),([]:List (List Int)),([]:List Int),([]:List Int),(0:Int),()):GD)).2.2.2.1):Int)) (R.gd ((0:Int)≤(0:Int)∧(0:Int)<(↑(List.length (List.getD (Option.getD x1 (((0:Int),([]:List E5),([]:List (E5×Int)),([]:List (List Int)),([]:List Int),([]:List Int),(0:Int),()):GD)).2.2.2.1 (Int.toNat d2.1) ([]:List Int))):Int)) (R.gd (okO (h75z x1 (List.getD (List.getD (Option.getD x1 (((0:Int),([]:List E5),([]:List (E5×Int)),([]:List (List Int)),([]:List Int),([]:List Int),(0:Int),()):GD)).2.2.2.1 (Int.toNat d2.1) ([]:List Int)) (0:Nat) (0:Int)))) (R.gd ((getO (h75z x1 (List.getD (List.getD (Option.getD x1 (((0:Int),([]:List E5),([]:List (E5×Int)),([]:List (List Int)),([]:List Int),([]:List Int),(0:Int),()):GD)).2.2.2.1 (Int.toNat d2.1) ([]:List Int)) (0:Nat) (0:Int)))).1≠(0:Int)) (bif !ieq (Int.tmod (wr .i64 (x0-(1:Int))) (getO (h75z x1 (List.getD (List.getD (Option.getD x1 (((0:Int),([]:List E5),([]:List (E5×Int)),([]:List (List Int)),([]:List Int),([]:List Int),(0:Int),()):GD)).2.2.2.1 (Int.toNat d2.1) ([]:List Int)) (0:Nat) (0:Int)))).1) (0:Int) then some (Lp.out ((false,()):Bool×Unit)) else some (Lp.go ((wr .i64 (d2.1+(1:Int)),()):Int×Unit)))))) else R.gd (okO (h76z x0)) (some (Lp.out (((getO (h76z x0)).1,()):Bool×Unit)))) (((0:Int),()):Int×Unit))
def g74z (x0:Int) (x1:Option GD):Option (Bool×Unit):=b74z rkO x0 x1
def q3k:List LSh:=LSh.mk (((11,TV.v (Ty.int .i64)):Nat×TV)::([]:List (Nat×TV))) ([]:List TB)::([]:List LSh)
def h43z (x0 x1:E5):Option (Int×Unit):=b43z (rkF 200) x0 x1
theorem q8h {n:Nat} (x0 x1:E5):LeO (b43z (rkF n) x0 x1) (b43z rkO x0 x1):=by
 unfold b43z
 repeat' first | with_reducible exact qag | with_reducible refine qan ?_ | with_reducible refine qah ?_ ?_ | with_reducible refine qaj ?_ | with_reducible refine qap ?_ ?_ | (refine qao fun s=>?_;try dsimp only)
theorem q87 (x0 x1:E5):LeO (h43z x0 x1) (g43z x0 x1):=q8h x0 x1
def qer:Con:=mkC 43 [.d P5,.d P5] [I64] (fun (x0 x1:E5)=>[okO (h43z x0 x1)]) (fun (x0 x1:E5)=>@getO ((Int×Unit)) _ (h43z x0 x1))
theorem q9a:qer.goal Tryz.prog (spOf [qqj]) qzn [] lm30:=by
 have e:(∀ (x0 x1:E5),okO (h43z x0 x1)→g43z x0 x1=some (getO (h43z x0 x1)))=qer.goal Tryz.prog (spOf [qqj]) qzn [] lm30:=by kernel_rfl
 rw [← e];intro x0 x1 h;exact qaz (q87 x0 x1) h
theorem qy1:qer.Ok Tryz.prog:=Con.of_goal mixed (okC ze1 okN) qer q9a
def h74z (x0:Int) (x1:Option GD):Option (Bool×Unit):=b74z (rkF 200) x0 x1
theorem q86 {n:Nat} (x0:Int) (x1:Option GD):LeO (b74z (rkF n) x0 x1) (b74z rkO x0 x1):=by
 unfold b74z
 repeat' first | with_reducible exact qag | with_reducible refine qan ?_ | with_reducible refine qah ?_ ?_ | with_reducible refine qaj ?_ | with_reducible refine qap ?_ ?_ | (refine qao fun s=>?_;try dsimp only)
theorem q73 (x0:Int) (x1:Option GD):LeO (h74z x0 x1) (g74z x0 x1):=q86 x0 x1
def qo1:Con:=mkC 74 [.d I64,.d (.ptr (.optr GT))] [.bool] (fun (x0:Int) (x1:Option GD)=>[okO (h74z x0 x1)]) (fun (x0:Int) (x1:Option GD)=>@getO ((Bool×Unit)) _ (h74z x0 x1))
theorem q8p:qo1.goal Tryz.prog (spOf [qpd,qpt]) q3k [] lm30:=by
 have e:(∀ (x0:Int) (x1:Option GD),okO (h74z x0 x1)→g74z x0 x1=some (getO (h74z x0 x1)))=qo1.goal Tryz.prog (spOf [qpd,qpt]) q3k [] lm30:=by kernel_rfl
 rw [← e];intro x0 x1 h;exact qaz (q73 x0 x1) h
theorem zeu:qo1.Ok Tryz.prog:=Con.of_goal mixed (okC zfb (okC ze2 okN)) qo1 q8p
end
end Go.Top
