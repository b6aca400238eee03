/- Groups of permutations: contracts of the zdr functions. -/
import Derived.Test.YtieimmiiaabpgaaGreatPA
import Derived.Test.YtieimmiiaabpgaaGreatAV
import Derived.Test.YtieimmiiaabpgaaGreatXB
set_option linter.unusedVariables false
set_option linter.unusedSimpArgs false
set_option maxRecDepth 100000
namespace Go.Top
noncomputable section
open Go Go.Ab Go.Proofs Go.Schur
abbrev E5:=Int×Int×Int×Int×Int×Unit
abbrev P5:Ty:=arrT 5 I64
abbrev GT:Ty:=.prod I64 (.prod (.slice P5) (.prod (.map P5 I64) (.prod LLI (.prod LI (.prod LI (.prod I64 .unit))))))
abbrev GD:=Int×List E5×List (E5×Int)×List (List Int)×List Int×List Int×Int×Unit
abbrev z5:E5:=(0,0,0,0,0,())
abbrev tk5 (s:List Int):List Int:=s.getD 0 0::s.getD 1 0::s.getD 2 0::s.getD 3 0::s.getD 4 0::[]
abbrev fl5 (P:E5):List Int:=P.1::P.2.1::P.2.2.1::P.2.2.2.1::P.2.2.2.2.1::[]
abbrev tup5 (s:List Int):E5:=(s.getD 0 0,s.getD 1 0,s.getD 2 0,s.getD 3 0,s.getD 4 0,())
def b40z (R:Rk) (x0:List Int) (x1:Int):Option (Bool×Unit):=R.wh (fun (d2:Int×Int×Unit)=>bif ilt d2.2.1 (↑(List.length x0):Int) then R.gd ((0:Int)≤d2.2.1∧d2.2.1<(↑(List.length x0):Int)) (R.gd ((!ilt (List.getD x0 (Int.toNat d2.2.1) (0:Int)) (0:Int))=true→(!ilt (List.getD x0 (Int.toNat d2.2.1) (0:Int)) (0:Int))=true∧(!ilt (List.getD x0 (Int.toNat d2.2.1) (0:Int)) (0:Int))=true) (R.gd (ilt (List.getD x0 (Int.toNat d2.2.1) (0:Int)) (0:Int)=false→(!ilt (List.getD x0 (Int.toNat d2.2.1) (0:Int)) (0:Int))=true) (bif bif ilt (List.getD x0 (Int.toNat d2.2.1) (0:Int)) (0:Int) then true else ile x1 (List.getD x0 (Int.toNat d2.2.1) (0:Int)) then some (Lp.out ((false,()):Bool×Unit)) else R.gd ((0:Int)≤List.getD x0 (Int.toNat d2.2.1) (0:Int)) (some (Lp.go ((ior IntKind.i64 d2.1 (ishl IntKind.i64 (1:Int) (List.getD x0 (Int.toNat d2.2.1) (0:Int))),wr .i64 (d2.2.1+(1:Int)),()):Int×Int×Unit)))))) else R.gd (ieq (↑(List.length x0):Int) x1=true→ieq (↑(List.length x0):Int) x1=true∧(0:Int)≤x1) (R.gd (ieq (↑(List.length x0):Int) x1=true→ieq (↑(List.length x0):Int) x1=true) (R.gd (ieq (↑(List.length x0):Int) x1=true→ieq (↑(List.length x0):Int) x1=true∧ieq (↑(List.length x0):Int) x1=true) (R.gd (ieq (↑(List.length x0):Int) x1=true→ieq (↑(List.length x0):Int) x1=true) (some (Lp.out ((bif ieq (↑(List.length x0):Int) x1 then ieq d2.1 (wr .i64 (ishl IntKind.i64 (1:Int) x1-(1:Int))) else false,()):Bool×Unit))))))) (((0:Int),(0:Int),()):Int×Int×Unit)
def g40z (x0:List Int) (x1:Int):Option (Bool×Unit):=b40z rkO x0 x1
def qzg:List LSh:=LSh.mk (((5,TV.v (Ty.int .i64)):Nat×TV)::((10,TV.v (Ty.int .i64)):Nat×TV)::([]:List (Nat×TV))) ([]:List TB)::([]:List LSh)
def b41z (R:Rk) (x0 x1:E5):Option (E5×Unit):=R.gd ((5:Nat)≤(5:Nat)) (R.wh (fun (d2:Int×List Int×List Int×List Int×Unit)=>bif ilt d2.1 (5:Int) then R.gd ((0:Int)≤d2.1∧d2.1<(5:Int)) (R.gd ((0:Int)≤(@id Int (qgv (5:Nat) (Ty.int .i64) ((x1:E5):E5) (Int.toNat d2.1)))∧(@id Int (qgv (5:Nat) (Ty.int .i64) ((x1:E5):E5) (Int.toNat d2.1)))<(5:Int)) (R.gd ((0:Nat)+Int.toNat (@id Int (qgv (5:Nat) (Ty.int .i64) ((x1:E5):E5) (Int.toNat d2.1)))*(1:Nat)<List.length d2.2.1) (R.gd ((0:Int)≤d2.1∧d2.1<(5:Int)) (R.gd ((0:Nat)+Int.toNat d2.1*(1:Nat)<List.length d2.2.2.2.1) (some (Lp.go ((wr .i64 (d2.1+(1:Int)),d2.2.1,d2.2.2.1,List.set d2.2.2.2.1 ((0:Nat)+Int.toNat d2.1*(1:Nat)) (List.getD d2.2.1 ((0:Nat)+Int.toNat (@id Int (qgv (5:Nat) (Ty.int .i64) ((x1:E5):E5) (Int.toNat d2.1)))*(1:Nat)) (0:Int)),()):Int×List Int×List Int×List Int×Unit))))))) else R.gd ((5:Nat)≤List.length d2.2.2.2.1) (R.gd ((5:Nat)≤List.length d2.2.2.1) (R.gd ((5:Nat)≤List.length (setMany d2.2.2.1 (0:Nat) (tk5 d2.2.2.2.1))) (some (Lp.out ((((tup5 (setMany d2.2.2.1 (0:Nat) (tk5 d2.2.2.2.1))):E5),()):E5×Unit)))))) (((0:Int),x0.1::x0.2.1::x0.2.2.1::x0.2.2.2.1::x0.2.2.2.2.1::([]:List Int),(0:Int)::(0:Int)::(0:Int)::(0:Int)::(0:Int)::([]:List Int),(0:Int)::(0:Int)::(0:Int)::(0:Int)::(0:Int)::([]:List Int),()):Int×List Int×List Int×List Int×Unit))
def g41z (x0 x1:E5):Option (E5×Unit):=b41z rkO x0 x1
def q3a:List LSh:=LSh.mk (((2,TV.ref (0) 1 0 0):Nat×TV)::((4,TV.ref (1) 1 0 0):Nat×TV)::((5,TV.ref (2) 1 0 0):Nat×TV)::((9,TV.v (Ty.int .i64)):Nat×TV)::([]:List (Nat×TV))) (TB.arr (Ty.int .i64) false::TB.arr (Ty.int .i64) false::TB.arr (Ty.int .i64) false::([]:List TB))::([]:List LSh)
def b98z (R:Rk) (x0:Int):Option (Bool×Unit):=some ((!ieq x0 x0,()):Bool×Unit)
def g98z (x0:Int):Option (Bool×Unit):=b98z rkO x0
def q1k:List LSh:=([]:List LSh)
def b76z (R:Rk) (x0:Int):Option (Bool×Unit):=R.wh (fun (d1:Int×Unit)=>bif ile (wr .i64 (d1.1*d1.1)) x0 then R.gd (d1.1≠(0:Int)) (bif ieq (Int.tmod x0 d1.1) (0:Int) then some (Lp.out ((false,()):Bool×Unit)) else some (Lp.go ((wr .i64 (d1.1+(1:Int)),()):Int×Unit))) else some (Lp.out ((ilt (1:Int) x0,()):Bool×Unit))) (((2:Int),()):Int×Unit)
def g76z (x0:Int):Option (Bool×Unit):=b76z rkO x0
def q1x:List LSh:=LSh.mk (((3,TV.v (Ty.int .i64)):Nat×TV)::([]:List (Nat×TV))) ([]:List TB)::([]:List LSh)
def b66z (R:Rk) (x0:Option GD) (x1:Int):Option (Int×Unit):=R.gd (Option.isSome x0=true) (R.gd ((Option.getD x0 (((0:Int),([]:List E5),([]:List (E5×Int)),([]:List (List Int)),([]:List Int),([]:List Int),(0:Int),()):GD)).2.2.2.2.2.2.1≠(0:Int)) (R.gd (Option.isSome x0=true) (R.gd (Option.isSome x0=true) (R.gd ((Option.getD x0 (((0:Int),([]:List E5),([]:List (E5×Int)),([]:List (List Int)),([]:List Int),([]:List Int),(0:Int),()):GD)).2.2.2.2.2.2.1≠(0:Int)) (some ((Int.tmod (wr .i64 (Int.tmod x1 (Option.getD x0 (((0:Int),([]:List E5),([]:List (E5×Int)),([]:List (List Int)),([]:List Int),([]:List Int),(0:Int),()):GD)).2.2.2.2.2.2.1+(Option.getD x0 (((0:Int),([]:List E5),([]:List (E5×Int)),([]:List (List Int)),([]:List Int),([]:List Int),(0:Int),()):GD)).2.2.2.2.2.2.1)) (Option.getD x0 (((0:Int),([]:List E5),([]:List (E5×Int)),([]:List (List Int)),([]:List Int),([]:List Int),(0:Int),()):GD)).2.2.2.2.2.2.1,()):Int×Unit))))))
def g66z (x0:Option GD) (x1:Int):Option (Int×Unit):=b66z rkO x0 x1
def q10:List LSh:=([]:List LSh)
def qru (R:Rk) (d2:Int×Int×Int×List Int×Unit) (d3:Int×Int×List Int×Unit):Option (Lp (Int×Int×List Int×Unit) (Lp (Int×Int×Int×List Int×Unit) (Int×Unit))):=R.gd ((0:Int)≤d3.2.1) (bif ieq (iand IntKind.i64 (ishr IntKind.i64 d3.1 d3.2.1) (1:Int)) (0:Int) then R.gd ((0:Int)≤d3.2.1) (R.gd ((0:Int)≤d3.2.1∧d3.2.1<(5:Int)) (R.gd ((0:Nat)+Int.toNat d3.2.1*(1:Nat)<List.length d3.2.2.1) (some (Lp.go ((ior IntKind.i64 d3.1 (ishl IntKind.i64 (1:Int) d3.2.1),List.getD d3.2.2.1 ((0:Nat)+Int.toNat d3.2.1*(1:Nat)) (0:Int),d3.2.2.1,()):Int×Int×List Int×Unit))))) else some (Lp.out (Lp.go ((d3.1,wr .i64 (d2.2.1+(1:Int)),wr .i64 (d2.2.2.1+(1:Int)),d3.2.2.1,()):Int×Int×Int×List Int×Unit))))
def qqy (R:Rk) (d2:Int×Int×Int×List Int×Unit) (d3:Int×Int×List Int×Unit):Option (Lp (Int×Int×List Int×Unit) (Lp (Int×Int×Int×List Int×Unit) (Int×Unit))):=R.gd ((0:Int)≤d3.2.1) (bif ieq (iand IntKind.i64 (ishr IntKind.i64 d3.1 d3.2.1) (1:Int)) (0:Int) then R.gd ((0:Int)≤d3.2.1) (R.gd ((0:Int)≤d3.2.1∧d3.2.1<(5:Int)) (R.gd ((0:Nat)+Int.toNat d3.2.1*(1:Nat)<List.length d3.2.2.1) (some (Lp.go ((ior IntKind.i64 d3.1 (ishl IntKind.i64 (1:Int) d3.2.1),List.getD d3.2.2.1 ((0:Nat)+Int.toNat d3.2.1*(1:Nat)) (0:Int),d3.2.2.1,()):Int×Int×List Int×Unit))))) else some (Lp.out (Lp.go ((d3.1,d2.2.1,wr .i64 (d2.2.2.1+(1:Int)),d3.2.2.1,()):Int×Int×Int×List Int×Unit))))
def b27z (R:Rk) (x0:Option GD) (x1:E5):Option (Int×Unit):=R.gd (Option.isSome x0=true) (R.wh (fun (d2:Int×Int×Int×List Int×Unit)=>bif ilt d2.2.2.1 (Option.getD x0 (((0:Int),([]:List E5),([]:List (E5×Int)),([]:List (List Int)),([]:List Int),([]:List Int),(0:Int),()):GD)).1 then R.gd ((0:Int)≤d2.2.2.1) (bif ieq (iand IntKind.i64 (ishr IntKind.i64 d2.1 d2.2.2.1) (1:Int)) (0:Int) then R.wh (qru R d2) ((d2.1,d2.2.2.1,d2.2.2.2.1,()):Int×Int×List Int×Unit) else R.wh (qqy R d2) ((d2.1,d2.2.2.1,d2.2.2.2.1,()):Int×Int×List Int×Unit)) else some (Lp.out ((d2.2.1,()):Int×Unit))) (((0:Int),(0:Int),(0:Int),x1.1::x1.2.1::x1.2.2.1::x1.2.2.2.1::x1.2.2.2.2.1::([]:List Int),()):Int×Int×Int×List Int×Unit))
def g27z (x0:Option GD) (x1:E5):Option (Int×Unit):=b27z rkO x0 x1
def q3f:List LSh:=LSh.mk (((3,TV.ref (0) 1 0 0):Nat×TV)::((5,TV.v (Ty.int .i64)):Nat×TV)::((6,TV.v (Ty.int .i64)):Nat×TV)::((13,TV.v (Ty.int .i64)):Nat×TV)::([]:List (Nat×TV))) (TB.arr (Ty.int .i64) false::([]:List TB))::LSh.mk (((3,TV.ref (0) 1 0 0):Nat×TV)::((5,TV.v (Ty.int .i64)):Nat×TV)::((8,TV.v (Ty.int .i64)):Nat×TV)::([]:List (Nat×TV))) (TB.arr (Ty.int .i64) false::([]:List TB))::([]:List LSh)
def q27 (R:Rk) (x0 x1:Int):Option (Int×Int×Unit):=R.gd ((0:Int)≤(32:Int)) (R.gd ((0:Int)≤(32:Int)) (R.gd ((0:Int)≤(32:Int)) (R.gd ((0:Int)≤(32:Int)) (R.gd ((0:Int)≤(32:Int)) (some ((wr IntKind.u64 (wr IntKind.u64 (wr IntKind.u64 (ishr IntKind.u64 x0 (32:Int)*ishr IntKind.u64 x1 (32:Int))+ishr IntKind.u64 (wr IntKind.u64 (wr IntKind.u64 (ishr IntKind.u64 x0 (32:Int)*iand IntKind.u64 x1 (4294967295:Int))+ishr IntKind.u64 (wr IntKind.u64 (iand IntKind.u64 x0 (4294967295:Int)*iand IntKind.u64 x1 (4294967295:Int))) (32:Int))) (32:Int))+ishr IntKind.u64 (wr IntKind.u64 (iand IntKind.u64 (wr IntKind.u64 (wr IntKind.u64 (ishr IntKind.u64 x0 (32:Int)*iand IntKind.u64 x1 (4294967295:Int))+ishr IntKind.u64 (wr IntKind.u64 (iand IntKind.u64 x0 (4294967295:Int)*iand IntKind.u64 x1 (4294967295:Int))) (32:Int))) (4294967295:Int)+wr IntKind.u64 (iand IntKind.u64 x0 (4294967295:Int)*ishr IntKind.u64 x1 (32:Int)))) (32:Int)),wr IntKind.u64 (x0*x1),()):Int×Int×Unit))))))
def ze3 (x0 x1:Int):Option (Int×Int×Unit):=q27 rkO x0 x1
def qv5:List LSh:=([]:List LSh)
def b30z (R:Rk) (x0:List Int):Option (List Int×Unit):=R.gd (List.length x0=List.length x0) (R.wh (fun (d1:Int×Int×List Int×Unit)=>bif ilt d1.1 d1.2.1 then R.gd ((0:Int)≤d1.2.1∧d1.2.1<(↑(List.length d1.2.2.1):Int)) (R.gd ((0:Nat)+Int.toNat d1.2.1<List.length d1.2.2.1) (R.gd ((0:Int)≤d1.1∧d1.1<(↑(List.length d1.2.2.1):Int)) (R.gd ((0:Nat)+Int.toNat d1.1<List.length d1.2.2.1) (R.gd ((0:Int)≤d1.1∧d1.1<(↑(List.length d1.2.2.1):Int)) (R.gd ((0:Nat)+Int.toNat d1.1<List.length d1.2.2.1) (R.gd ((0:Int)≤d1.2.1∧d1.2.1<(↑(List.length d1.2.2.1):Int)) (R.gd ((0:Nat)+Int.toNat d1.2.1<List.length (List.set d1.2.2.1 ((0:Nat)+Int.toNat d1.1) (List.getD d1.2.2.1 ((0:Nat)+Int.toNat d1.2.1) (0:Int)))) (R.gd (List.length d1.2.2.1=List.length (List.set (List.set d1.2.2.1 ((0:Nat)+Int.toNat d1.1) (List.getD d1.2.2.1 ((0:Nat)+Int.toNat d1.2.1) (0:Int))) ((0:Nat)+Int.toNat d1.2.1) (List.getD d1.2.2.1 ((0:Nat)+Int.toNat d1.1) (0:Int)))) (some (Lp.go ((wr .i64 (d1.1+(1:Int)),wr .i64 (d1.2.1-(1:Int)),List.set (List.set d1.2.2.1 ((0:Nat)+Int.toNat d1.1) (List.getD d1.2.2.1 ((0:Nat)+Int.toNat d1.2.1) (0:Int))) ((0:Nat)+Int.toNat d1.2.1) (List.getD d1.2.2.1 ((0:Nat)+Int.toNat d1.1) (0:Int)),()):Int×Int×List Int×Unit))))))))))) else some (Lp.out ((d1.2.2.1,()):List Int×Unit))) (((0:Int),wr .i64 ((↑(List.length x0):Int)-(1:Int)),x0,()):Int×Int×List Int×Unit))
def g30z (x0:List Int):Option (List Int×Unit):=b30z rkO x0
def q0j:List LSh:=LSh.mk3 (((0,TV.slf (0) (1)):Nat×TV)::((2,TV.v (Ty.int .i64)):Nat×TV)::((3,TV.v (Ty.int .i64)):Nat×TV)::([]:List (Nat×TV))) (TB.arr (Ty.int .i64) true::([]:List TB)) (1)::([]:List LSh)
def b61z (R:Rk) (x0:List Int):Option (Int×Unit):=R.wh (fun (d1:Int×Unit)=>bif ilt d1.1 (↑(List.length x0):Int) then R.gd ((0:Int)≤d1.1∧d1.1<(↑(List.length x0):Int)) (bif !ieq (List.getD x0 (Int.toNat d1.1) (0:Int)) (0:Int) then some (Lp.out ((List.getD x0 (Int.toNat d1.1) (0:Int),()):Int×Unit)) else some (Lp.go ((wr .i64 (d1.1+(1:Int)),()):Int×Unit))) else some (Lp.out (((0:Int),()):Int×Unit))) (((0:Int),()):Int×Unit)
def g61z (x0:List Int):Option (Int×Unit):=b61z rkO x0
def q3s:List LSh:=LSh.mk (((8,TV.v (Ty.int .i64)):Nat×TV)::([]:List (Nat×TV))) ([]:List TB)::([]:List LSh)
def b22z (R:Rk) (x0 x1:List Int):Option (Bool×Unit):=bif !ieq (↑(List.length x0):Int) (↑(List.length x1):Int) then some ((false,()):Bool×Unit) else R.wh (fun (d2:Int×Unit)=>bif ilt d2.1 (↑(List.length x0):Int) then R.gd ((0:Int)≤d2.1∧d2.1<(↑(List.length x0):Int)) (R.gd ((0:Int)≤d2.1∧d2.1<(↑(List.length x1):Int)) (bif !ieq (List.getD x0 (Int.toNat d2.1) (0:Int)) (List.getD x1 (Int.toNat d2.1) (0:Int)) then some (Lp.out ((false,()):Bool×Unit)) else some (Lp.go ((wr .i64 (d2.1+(1:Int)),()):Int×Unit)))) else some (Lp.out ((true,()):Bool×Unit))) (((0:Int),()):Int×Unit)
def g22z (x0 x1:List Int):Option (Bool×Unit):=b22z rkO x0 x1
def q2j:List LSh:=LSh.mk (((13,TV.v (Ty.int .i64)):Nat×TV)::([]:List (Nat×TV))) ([]:List TB)::([]:List LSh)
def h40z (x0:List Int) (x1:Int):Option (Bool×Unit):=b40z (rkF 200) x0 x1
theorem q85 {n:Nat} (x0:List Int) (x1:Int):LeO (b40z (rkF n) x0 x1) (b40z rkO x0 x1):=by
 unfold b40z
 repeat' first | with_reducible exact qae | with_reducible refine qam ?_ | with_reducible refine qad ?_ ?_ | with_reducible refine qai ?_ | with_reducible refine qao ?_ ?_ | (refine qan fun s=>?_;try dsimp only)
theorem q8k (x0:List Int) (x1:Int):LeO (h40z x0 x1) (g40z x0 x1):=q85 x0 x1
def qp9:Con:=mkC 40 [.d LI,.d I64] [.bool] (fun (x0:List Int) (x1:Int)=>[okO (h40z x0 x1)]) (fun (x0:List Int) (x1:Int)=>@getO ((Bool×Unit)) _ (h40z x0 x1))
theorem q98:qp9.goal Tryz.prog (spOf []) qzg [] lm30:=by
 have e:(∀ (x0:List Int) (x1:Int),okO (h40z x0 x1)→g40z x0 x1=some (getO (h40z x0 x1)))=qp9.goal Tryz.prog (spOf []) qzg [] lm30:=by kernel_rfl
 rw [← e];intro x0 x1 h;exact qaq (q8k x0 x1) h
theorem zf6:qp9.Ok Tryz.prog:=Con.of_goal mixed okN qp9 q98
def h41z (x0 x1:E5):Option (E5×Unit):=b41z (rkF 200) x0 x1
theorem zc9 {n:Nat} (x0 x1:E5):LeO (b41z (rkF n) x0 x1) (b41z rkO x0 x1):=by
 unfold b41z
 repeat' first | with_reducible exact qae | with_reducible refine qam ?_ | with_reducible refine qad ?_ ?_ | with_reducible refine qai ?_ | with_reducible refine qao ?_ ?_ | (refine qan fun s=>?_;try dsimp only)
theorem q89 (x0 x1:E5):LeO (h41z x0 x1) (g41z x0 x1):=zc9 x0 x1
def qlc:Con:=mkC 41 [.d P5,.d P5] [P5] (fun (x0 x1:E5)=>[okO (h41z x0 x1)]) (fun (x0 x1:E5)=>@getO ((E5×Unit)) _ (h41z x0 x1))
theorem q86:qlc.goal Tryz.prog (spOf []) q3a [] lm30:=by
 have e:(∀ (x0 x1:E5),okO (h41z x0 x1)→g41z x0 x1=some (getO (h41z x0 x1)))=qlc.goal Tryz.prog (spOf []) q3a [] lm30:=by kernel_rfl
 rw [← e];intro x0 x1 h;exact qaq (q89 x0 x1) h
theorem zen:qlc.Ok Tryz.prog:=Con.of_goal mixed okN qlc q86
def h98z (x0:Int):Option (Bool×Unit):=b98z (rkF 200) x0
theorem zc2 {n:Nat} (x0:Int):LeO (b98z (rkF n) x0) (b98z rkO x0):=by
 unfold b98z
 repeat' first | with_reducible exact qae | with_reducible refine qam ?_ | with_reducible refine qad ?_ ?_ | with_reducible refine qai ?_ | with_reducible refine qao ?_ ?_ | (refine qan fun s=>?_;try dsimp only)
theorem q9c (x0:Int):LeO (h98z x0) (g98z x0):=zc2 x0
def qqp:Con:=mkC 98 [.d I64] [.bool] (fun (x0:Int)=>[okO (h98z x0)]) (fun (x0:Int)=>@getO ((Bool×Unit)) _ (h98z x0))
theorem q8e:qqp.goal Tryz.prog (spOf []) q1k [] lm30:=by
 have e:(∀ (x0:Int),okO (h98z x0)→g98z x0=some (getO (h98z x0)))=qqp.goal Tryz.prog (spOf []) q1k [] lm30:=by kernel_rfl
 rw [← e];intro x0 h;exact qaq (q9c x0) h
theorem zf5:qqp.Ok Tryz.prog:=Con.of_goal mixed okN qqp q8e
def h76z (x0:Int):Option (Bool×Unit):=b76z (rkF 200) x0
theorem zcw {n:Nat} (x0:Int):LeO (b76z (rkF n) x0) (b76z rkO x0):=by
 unfold b76z
 repeat' first | with_reducible exact qae | with_reducible refine qam ?_ | with_reducible refine qad ?_ ?_ | with_reducible refine qai ?_ | with_reducible refine qao ?_ ?_ | (refine qan fun s=>?_;try dsimp only)
theorem q9b (x0:Int):LeO (h76z x0) (g76z x0):=zcw x0
def qop:Con:=mkC 76 [.d I64] [.bool] (fun (x0:Int)=>[okO (h76z x0)]) (fun (x0:Int)=>@getO ((Bool×Unit)) _ (h76z x0))
theorem zae:qop.goal Tryz.prog (spOf []) q1x [] lm30:=by
 have e:(∀ (x0:Int),okO (h76z x0)→g76z x0=some (getO (h76z x0)))=qop.goal Tryz.prog (spOf []) q1x [] lm30:=by kernel_rfl
 rw [← e];intro x0 h;exact qaq (q9b x0) h
theorem zfz:qop.Ok Tryz.prog:=Con.of_goal mixed okN qop zae
def h66z (x0:Option GD) (x1:Int):Option (Int×Unit):=b66z (rkF 200) x0 x1
theorem zbe {n:Nat} (x0:Option GD) (x1:Int):LeO (b66z (rkF n) x0 x1) (b66z rkO x0 x1):=by
 unfold b66z
 repeat' first | with_reducible exact qae | with_reducible refine qam ?_ | with_reducible refine qad ?_ ?_ | with_reducible refine qai ?_ | with_reducible refine qao ?_ ?_ | (refine qan fun s=>?_;try dsimp only)
theorem zb4 (x0:Option GD) (x1:Int):LeO (h66z x0 x1) (g66z x0 x1):=zbe x0 x1
def qgq:Con:=mkC 66 [.d (.optr GT),.d I64] [I64] (fun (x0:Option GD) (x1:Int)=>[okO (h66z x0 x1)]) (fun (x0:Option GD) (x1:Int)=>@getO ((Int×Unit)) _ (h66z x0 x1))
theorem q8q:qgq.goal Tryz.prog (spOf []) q10 [] lm30:=by
 have e:(∀ (x0:Option GD) (x1:Int),okO (h66z x0 x1)→g66z x0 x1=some (getO (h66z x0 x1)))=qgq.goal Tryz.prog (spOf []) q10 [] lm30:=by kernel_rfl
 rw [← e];intro x0 x1 h;exact qaq (zb4 x0 x1) h
theorem q5j:qgq.Ok Tryz.prog:=Con.of_goal mixed okN qgq q8q
theorem qp8 {n:Nat} (d2:Int×Int×Int×List Int×Unit) (d3:Int×Int×List Int×Unit):LeO (qru (rkF n) d2 d3) (qru rkO d2 d3):=by
 unfold qru
 repeat' first | with_reducible exact qae | with_reducible apply qo5 | with_reducible apply que | with_reducible refine qam ?_ | with_reducible refine qad ?_ ?_ | with_reducible refine qai ?_ | with_reducible refine qao ?_ ?_ | (refine qan fun s=>?_;try dsimp only)
theorem qo5 {n:Nat} (d2:Int×Int×Int×List Int×Unit) (d3:Int×Int×List Int×Unit):LeO (qqy (rkF n) d2 d3) (qqy rkO d2 d3):=by
 unfold qqy
 repeat' first | with_reducible exact qae | with_reducible apply qp8 | with_reducible apply que | with_reducible refine qam ?_ | with_reducible refine qad ?_ ?_ | with_reducible refine qai ?_ | with_reducible refine qao ?_ ?_ | (refine qan fun s=>?_;try dsimp only)
def h27z (x0:Option GD) (x1:E5):Option (Int×Unit):=b27z (rkF 200) x0 x1
theorem que {n:Nat} (x0:Option GD) (x1:E5):LeO (b27z (rkF n) x0 x1) (b27z rkO x0 x1):=by
 unfold b27z
 repeat' first | with_reducible exact qae | with_reducible apply qp8 | with_reducible apply qo5 | with_reducible refine qam ?_ | with_reducible refine qad ?_ ?_ | with_reducible refine qai ?_ | with_reducible refine qao ?_ ?_ | (refine qan fun s=>?_;try dsimp only)
theorem zc6 (x0:Option GD) (x1:E5):LeO (h27z x0 x1) (g27z x0 x1):=que x0 x1
def qp6:Con:=mkC 27 [.d (.optr GT),.d P5] [I64] (fun (x0:Option GD) (x1:E5)=>[okO (h27z x0 x1)]) (fun (x0:Option GD) (x1:E5)=>@getO ((Int×Unit)) _ (h27z x0 x1))
theorem q8m:qp6.goal Tryz.prog (spOf []) q3f [] lm30:=by
 have e:(∀ (x0:Option GD) (x1:E5),okO (h27z x0 x1)→g27z x0 x1=some (getO (h27z x0 x1)))=qp6.goal Tryz.prog (spOf []) q3f [] lm30:=by kernel_rfl
 rw [← e];intro x0 x1 h;exact qaq (zc6 x0 x1) h
theorem zgg:qp6.Ok Tryz.prog:=Con.of_goal mixed okN qp6 q8m
def qtq (x0 x1:Int):Option (Int×Int×Unit):=q27 (rkF 200) x0 x1
theorem q54 {n:Nat} (x0 x1:Int):LeO (q27 (rkF n) x0 x1) (q27 rkO x0 x1):=by
 unfold q27
 repeat' first | with_reducible exact qae | with_reducible refine qam ?_ | with_reducible refine qad ?_ ?_ | with_reducible refine qai ?_ | with_reducible refine qao ?_ ?_ | (refine qan fun s=>?_;try dsimp only)
theorem q47 (x0 x1:Int):LeO (qtq x0 x1) (ze3 x0 x1):=q54 x0 x1
def qk3:Con:=mkC 134 [.d (.int .u64),.d (.int .u64)] [.int .u64,.int .u64] (fun (x0 x1:Int)=>[okO (qtq x0 x1)]) (fun (x0 x1:Int)=>@getO ((Int×Int×Unit)) _ (qtq x0 x1))
theorem q5o:qk3.goal Tryz.prog (spOf []) qv5 [] lm30:=by
 have e:(∀ (x0 x1:Int),okO (qtq x0 x1)→ze3 x0 x1=some (getO (qtq x0 x1)))=qk3.goal Tryz.prog (spOf []) qv5 [] lm30:=by kernel_rfl
 rw [← e];intro x0 x1 h;exact qaq (q47 x0 x1) h
theorem zew:qk3.Ok Tryz.prog:=Con.of_goal mixed okN qk3 q5o
def h30z (x0:List Int):Option (List Int×Unit):=b30z (rkF 200) x0
theorem zbt {n:Nat} (x0:List Int):LeO (b30z (rkF n) x0) (b30z rkO x0):=by
 unfold b30z
 repeat' first | with_reducible exact qae | with_reducible refine qam ?_ | with_reducible refine qad ?_ ?_ | with_reducible refine qai ?_ | with_reducible refine qao ?_ ?_ | (refine qan fun s=>?_;try dsimp only)
theorem zbf (x0:List Int):LeO (h30z x0) (g30z x0):=zbt x0
def qpw:SCon:=mkS 30 [.slf 0 1] [.arr I64 true] [] [.arr I64 true] (fun (x0:List Int)=>[okO (h30z x0)]) (fun (x0:List Int)=>@getO ((List Int×Unit)) _ (h30z x0))
theorem q7s:qpw.goal Tryz.prog (spS [] []) q0j [] lm30:=by
 have e:(∀ (x0:List Int),okO (h30z x0)→g30z x0=some (getO (h30z x0)))=qpw.goal Tryz.prog (spS [] []) q0j [] lm30:=by kernel_rfl
 rw [← e];intro x0 h;exact qaq (zbf x0) h
theorem zf7:qpw.Ok Tryz.prog:=SCon.of_goal mixed okN okS0 qpw q7s
def h61z (x0:List Int):Option (Int×Unit):=b61z (rkF 200) x0
theorem zaq {n:Nat} (x0:List Int):LeO (b61z (rkF n) x0) (b61z rkO x0):=by
 unfold b61z
 repeat' first | with_reducible exact qae | with_reducible refine qam ?_ | with_reducible refine qad ?_ ?_ | with_reducible refine qai ?_ | with_reducible refine qao ?_ ?_ | (refine qan fun s=>?_;try dsimp only)
theorem zcb (x0:List Int):LeO (h61z x0) (g61z x0):=zaq x0
def qpa:Con:=mkC 61 [.d LI] [I64] (fun (x0:List Int)=>[okO (h61z x0)]) (fun (x0:List Int)=>@getO ((Int×Unit)) _ (h61z x0))
theorem zao:qpa.goal Tryz.prog (spOf []) q3s [] lm30:=by
 have e:(∀ (x0:List Int),okO (h61z x0)→g61z x0=some (getO (h61z x0)))=qpa.goal Tryz.prog (spOf []) q3s [] lm30:=by kernel_rfl
 rw [← e];intro x0 h;exact qaq (zcb x0) h
theorem zga:qpa.Ok Tryz.prog:=Con.of_goal mixed okN qpa zao
def h22z (x0 x1:List Int):Option (Bool×Unit):=b22z (rkF 200) x0 x1
theorem zb3 {n:Nat} (x0 x1:List Int):LeO (b22z (rkF n) x0 x1) (b22z rkO x0 x1):=by
 unfold b22z
 repeat' first | with_reducible exact qae | with_reducible refine qam ?_ | with_reducible refine qad ?_ ?_ | with_reducible refine qai ?_ | with_reducible refine qao ?_ ?_ | (refine qan fun s=>?_;try dsimp only)
theorem zaa (x0 x1:List Int):LeO (h22z x0 x1) (g22z x0 x1):=zb3 x0 x1
def qo1:Con:=mkC 22 [.d LI,.d LI] [.bool] (fun (x0 x1:List Int)=>[okO (h22z x0 x1)]) (fun (x0 x1:List Int)=>@getO ((Bool×Unit)) _ (h22z x0 x1))
theorem za9:qo1.goal Tryz.prog (spOf []) q2j [] lm30:=by
 have e:(∀ (x0 x1:List Int),okO (h22z x0 x1)→g22z x0 x1=some (getO (h22z x0 x1)))=qo1.goal Tryz.prog (spOf []) q2j [] lm30:=by kernel_rfl
 rw [← e];intro x0 x1 h;exact qaq (zaa x0 x1) h
theorem zgf:qo1.Ok Tryz.prog:=Con.of_goal mixed okN qo1 za9
def b62z (R:Rk) (x0 x1:Int):Option (Int×Unit):=R.gd (okO (h98z x0)) (R.gd (okO (h98z x1)) (bif (getO (h98z x0)).1 then bif (getO (h98z x1)).1 then some (((0:Int),()):Int×Unit) else some (((-1:Int),()):Int×Unit) else bif (getO (h98z x1)).1 then some (((1:Int),()):Int×Unit) else bif ilt x0 x1 then some (((-1:Int),()):Int×Unit) else bif ilt x1 x0 then some (((1:Int),()):Int×Unit) else some (((0:Int),()):Int×Unit)))
def g62z (x0 x1:Int):Option (Int×Unit):=b62z rkO x0 x1
def qz4:List LSh:=([]:List LSh)
def b72z (R:Rk) (x0:Option GD) (x1 x2:Int):Option (Int×Unit):=R.gd (Option.isSome x0=true) (R.gd (Option.isSome x0=true) (R.gd ((0:Int)≤x1∧x1<(↑(List.length (Option.getD x0 (((0:Int),([]:List E5),([]:List (E5×Int)),([]:List (List Int)),([]:List Int),([]:List Int),(0:Int),()):GD)).2.1):Int)) (R.gd (Option.isSome x0=true) (R.gd ((0:Int)≤x2∧x2<(↑(List.length (Option.getD x0 (((0:Int),([]:List E5),([]:List (E5×Int)),([]:List (List Int)),([]:List Int),([]:List Int),(0:Int),()):GD)).2.1):Int)) (R.gd (okO (h41z (List.getD (Option.getD x0 (((0:Int),([]:List E5),([]:List (E5×Int)),([]:List (List Int)),([]:List Int),([]:List Int),(0:Int),()):GD)).2.1 (Int.toNat x1) z5) (List.getD (Option.getD x0 (((0:Int),([]:List E5),([]:List (E5×Int)),([]:List (List Int)),([]:List Int),([]:List Int),(0:Int),()):GD)).2.1 (Int.toNat x2) z5))) (some ((Option.getD (α:=Int) (qdb P5 (Ty.int .i64) ((Option.getD x0 (((0:Int),([]:List E5),([]:List (E5×Int)),([]:List (List Int)),([]:List Int),([]:List Int),(0:Int),()):GD)).2.2.1:List (E5×Int)) ((getO (h41z (List.getD (Option.getD x0 (((0:Int),([]:List E5),([]:List (E5×Int)),([]:List (List Int)),([]:List Int),([]:List Int),(0:Int),()):GD)).2.1 (Int.toNat x1) z5) (List.getD (Option.getD x0 (((0:Int),([]:List E5),([]:List (E5×Int)),([]:List (List Int)),([]:List Int),([]:List Int),(0:Int),()):GD)).2.1 (Int.toNat x2) z5))).1:E5)) (0:Int),()):Int×Unit)))))))
def g72z (x0:Option GD) (x1 x2:Int):Option (Int×Unit):=b72z rkO x0 x1 x2
def q00:List LSh:=([]:List LSh)
def b67z (R:Rk) (x0:Option GD) (x1:Int):Option (Int×Unit):=R.wh (fun (d2:Int×Unit)=>R.gd (okO (h66z x0 (wr .i64 (d2.1*x1)))) (bif !ieq (getO (h66z x0 (wr .i64 (d2.1*x1)))).1 (1:Int) then some (Lp.go ((wr .i64 (d2.1+(1:Int)),()):Int×Unit)) else some (Lp.out ((d2.1,()):Int×Unit)))) (((1:Int),()):Int×Unit)
def g67z (x0:Option GD) (x1:Int):Option (Int×Unit):=b67z rkO x0 x1
def q3q:List LSh:=LSh.mk (((5,TV.v (Ty.int .i64)):Nat×TV)::([]:List (Nat×TV))) ([]:List TB)::([]:List LSh)
def qz6 (R:Rk) (x0 x1:Int):Option (Int×Int×Unit):=R.gd (okO (qtq x0 x1)) (some (((getO (qtq x0 x1)).1,(getO (qtq x0 x1)).2.1,()):Int×Int×Unit))
def zfh (x0 x1:Int):Option (Int×Int×Unit):=qz6 rkO x0 x1
def qwh:List LSh:=([]:List LSh)
def h62z (x0 x1:Int):Option (Int×Unit):=b62z (rkF 200) x0 x1
theorem zbi {n:Nat} (x0 x1:Int):LeO (b62z (rkF n) x0 x1) (b62z rkO x0 x1):=by
 unfold b62z
 repeat' first | with_reducible exact qae | with_reducible refine qam ?_ | with_reducible refine qad ?_ ?_ | with_reducible refine qai ?_ | with_reducible refine qao ?_ ?_ | (refine qan fun s=>?_;try dsimp only)
theorem zcz (x0 x1:Int):LeO (h62z x0 x1) (g62z x0 x1):=zbi x0 x1
def qip:Con:=mkC 62 [.d I64,.d I64] [I64] (fun (x0 x1:Int)=>[okO (h62z x0 x1)]) (fun (x0 x1:Int)=>@getO ((Int×Unit)) _ (h62z x0 x1))
theorem q9g:qip.goal Tryz.prog (spOf [qqp]) qz4 [] lm30:=by
 have e:(∀ (x0 x1:Int),okO (h62z x0 x1)→g62z x0 x1=some (getO (h62z x0 x1)))=qip.goal Tryz.prog (spOf [qqp]) qz4 [] lm30:=by kernel_rfl
 rw [← e];intro x0 x1 h;exact qaq (zcz x0 x1) h
theorem q87:qip.Ok Tryz.prog:=Con.of_goal mixed (okC zf5 okN) qip q9g
def h72z (x0:Option GD) (x1 x2:Int):Option (Int×Unit):=b72z (rkF 200) x0 x1 x2
theorem zbx {n:Nat} (x0:Option GD) (x1 x2:Int):LeO (b72z (rkF n) x0 x1 x2) (b72z rkO x0 x1 x2):=by
 unfold b72z
 repeat' first | with_reducible exact qae | with_reducible refine qam ?_ | with_reducible refine qad ?_ ?_ | with_reducible refine qai ?_ | with_reducible refine qao ?_ ?_ | (refine qan fun s=>?_;try dsimp only)
theorem zbo (x0:Option GD) (x1 x2:Int):LeO (h72z x0 x1 x2) (g72z x0 x1 x2):=zbx x0 x1 x2
def qgn:Con:=mkC 72 [.d (.optr GT),.d I64,.d I64] [I64] (fun (x0:Option GD) (x1 x2:Int)=>[okO (h72z x0 x1 x2)]) (fun (x0:Option GD) (x1 x2:Int)=>@getO ((Int×Unit)) _ (h72z x0 x1 x2))
theorem za8:qgn.goal Tryz.prog (spOf [qlc]) q00 [] lm30:=by
 have e:(∀ (x0:Option GD) (x1 x2:Int),okO (h72z x0 x1 x2)→g72z x0 x1 x2=some (getO (h72z x0 x1 x2)))=qgn.goal Tryz.prog (spOf [qlc]) q00 [] lm30:=by kernel_rfl
 rw [← e];intro x0 x1 x2 h;exact qaq (zbo x0 x1 x2) h
theorem q5q:qgn.Ok Tryz.prog:=Con.of_goal mixed (okC zen okN) qgn za8
def h67z (x0:Option GD) (x1:Int):Option (Int×Unit):=b67z (rkF 200) x0 x1
theorem q91 {n:Nat} (x0:Option GD) (x1:Int):LeO (b67z (rkF n) x0 x1) (b67z rkO x0 x1):=by
 unfold b67z
 repeat' first | with_reducible exact qae | with_reducible refine qam ?_ | with_reducible refine qad ?_ ?_ | with_reducible refine qai ?_ | with_reducible refine qao ?_ ?_ | (refine qan fun s=>?_;try dsimp only)
theorem q78 (x0:Option GD) (x1:Int):LeO (h67z x0 x1) (g67z x0 x1):=q91 x0 x1
def qlj:Con:=mkC 67 [.d (.optr GT),.d I64] [I64] (fun (x0:Option GD) (x1:Int)=>[okO (h67z x0 x1)]) (fun (x0:Option GD) (x1:Int)=>@getO ((Int×Unit)) _ (h67z x0 x1))
theorem q9q:qlj.goal Tryz.prog (spOf [qgq]) q3q [] lm30:=by
 have e:(∀ (x0:Option GD) (x1:Int),okO (h67z x0 x1)→g67z x0 x1=some (getO (h67z x0 x1)))=qlj.goal Tryz.prog (spOf [qgq]) q3q [] lm30:=by kernel_rfl
 rw [← e];intro x0 x1 h;exact qaq (q78 x0 x1) h
theorem zd4:qlj.Ok Tryz.prog:=Con.of_goal mixed (okC q5j okN) qlj q9q
def qbo (x0 x1:Int):Option (Int×Int×Unit):=qz6 (rkF 200) x0 x1
theorem q5e {n:Nat} (x0 x1:Int):LeO (qz6 (rkF n) x0 x1) (qz6 rkO x0 x1):=by
 unfold qz6
 repeat' first | with_reducible exact qae | with_reducible refine qam ?_ | with_reducible refine qad ?_ ?_ | with_reducible refine qai ?_ | with_reducible refine qao ?_ ?_ | (refine qan fun s=>?_;try dsimp only)
theorem q6n (x0 x1:Int):LeO (qbo x0 x1) (zfh x0 x1):=q5e x0 x1
def qky:Con:=mkC 110 [.d (.int .u64),.d (.int .u64)] [.int .u64,.int .u64] (fun (x0 x1:Int)=>[okO (qbo x0 x1)]) (fun (x0 x1:Int)=>@getO ((Int×Int×Unit)) _ (qbo x0 x1))
theorem q6k:qky.goal Tryz.prog (spOf [qk3]) qwh [] lm30:=by
 have e:(∀ (x0 x1:Int),okO (qbo x0 x1)→zfh x0 x1=some (getO (qbo x0 x1)))=qky.goal Tryz.prog (spOf [qk3]) qwh [] lm30:=by kernel_rfl
 rw [← e];intro x0 x1 h;exact qaq (q6n x0 x1) h
theorem ze0:qky.Ok Tryz.prog:=Con.of_goal mixed (okC zew okN) qky q6k
def b44z (R:Rk) (x0 x1:List Int):Option (Int×Unit):=R.wh (fun (d2:Int×Unit)=>bif ilt d2.1 (↑(List.length x0):Int) then R.gd ((0:Int)≤d2.1∧d2.1<(↑(List.length x0):Int)) (bif ile (↑(List.length x1):Int) d2.1 then some (Lp.out (((1:Int),()):Int×Unit)) else R.gd ((0:Int)≤d2.1∧d2.1<(↑(List.length x1):Int)) (R.gd (okO (h62z (List.getD x0 (Int.toNat d2.1) (0:Int)) (List.getD x1 (Int.toNat d2.1) (0:Int)))) (bif !ieq (getO (h62z (List.getD x0 (Int.toNat d2.1) (0:Int)) (List.getD x1 (Int.toNat d2.1) (0:Int)))).1 (0:Int) then some (Lp.out (((getO (h62z (List.getD x0 (Int.toNat d2.1) (0:Int)) (List.getD x1 (Int.toNat d2.1) (0:Int)))).1,()):Int×Unit)) else some (Lp.go ((wr .i64 (d2.1+(1:Int)),()):Int×Unit))))) else bif ilt (↑(List.length x0):Int) (↑(List.length x1):Int) then some (Lp.out (((-1:Int),()):Int×Unit)) else some (Lp.out (((0:Int),()):Int×Unit))) (((0:Int),()):Int×Unit)
def g44z (x0 x1:List Int):Option (Int×Unit):=b44z rkO x0 x1
def qzt:List LSh:=LSh.mk (((11,TV.v (Ty.int .i64)):Nat×TV)::([]:List (Nat×TV))) ([]:List TB)::([]:List LSh)
def b73z (R:Rk) (x0:Option GD) (x1:Int):Option (Int×Unit):=R.gd (Option.isSome x0=true) (R.wh (fun (d2:Int×Unit)=>bif ilt d2.1 (↑(List.length (Option.getD x0 (((0:Int),([]:List E5),([]:List (E5×Int)),([]:List (List Int)),([]:List Int),([]:List Int),(0:Int),()):GD)).2.1):Int) then R.gd (okO (h72z x0 x1 d2.1)) (bif ieq (getO (h72z x0 x1 d2.1)).1 (0:Int) then some (Lp.out ((d2.1,()):Int×Unit)) else some (Lp.go ((wr .i64 (d2.1+(1:Int)),()):Int×Unit))) else some (Lp.out (((0:Int),()):Int×Unit))) (((0:Int),()):Int×Unit))
def g73z (x0:Option GD) (x1:Int):Option (Int×Unit):=b73z rkO x0 x1
def qz5:List LSh:=LSh.mk (((11,TV.v (Ty.int .i64)):Nat×TV)::([]:List (Nat×TV))) ([]:List TB)::([]:List LSh)
def b75z (R:Rk) (x0:Option GD) (x1:Int):Option (Int×Unit):=R.wh (fun (d2:Int×Int×Unit)=>bif !ieq d2.2.1 (0:Int) then R.gd (okO (h72z x0 d2.2.1 x1)) (some (Lp.go ((wr .i64 (d2.1+(1:Int)),(getO (h72z x0 d2.2.1 x1)).1,()):Int×Int×Unit))) else some (Lp.out ((d2.1,()):Int×Unit))) (((1:Int),x1,()):Int×Int×Unit)
def g75z (x0:Option GD) (x1:Int):Option (Int×Unit):=b75z rkO x0 x1
def q0w:List LSh:=LSh.mk (((5,TV.v (Ty.int .i64)):Nat×TV)::((6,TV.v (Ty.int .i64)):Nat×TV)::([]:List (Nat×TV))) ([]:List TB)::([]:List LSh)
def b71z (R:Rk) (x0:List Int) (x1:Int):Option (List Int×Unit):=bif ilt x1 (0:Int) then R.gd False (R.gd False (R.gd (okO (qbo (wr IntKind.u64 (↑(List.length x0):Int)) (wr IntKind.u64 x1))) (R.gd ((!ilt (0:Int) (getO (qbo (wr IntKind.u64 (↑(List.length x0):Int)) (wr IntKind.u64 x1))).1)=true→(!ilt (0:Int) (getO (qbo (wr IntKind.u64 (↑(List.length x0):Int)) (wr IntKind.u64 x1))).1)=true) (R.gd (ilt (0:Int) (getO (qbo (wr IntKind.u64 (↑(List.length x0):Int)) (wr IntKind.u64 x1))).1=false→(!ilt (0:Int) (getO (qbo (wr IntKind.u64 (↑(List.length x0):Int)) (wr IntKind.u64 x1))).1)=true) (bif bif ilt (0:Int) (getO (qbo (wr IntKind.u64 (↑(List.length x0):Int)) (wr IntKind.u64 x1))).1 then true else ilt (9223372036854775807:Int) (getO (qbo (wr IntKind.u64 (↑(List.length x0):Int)) (wr IntKind.u64 x1))).2.1 then R.gd False (R.gd False (R.gd ((0:Int)≤wr .i64 (getO (qbo (wr IntKind.u64 (↑(List.length x0):Int)) (wr IntKind.u64 x1))).2.1∧wr .i64 (getO (qbo (wr IntKind.u64 (↑(List.length x0):Int)) (wr IntKind.u64 x1))).2.1≤wr .i64 (getO (qbo (wr IntKind.u64 (↑(List.length x0):Int)) (wr IntKind.u64 x1))).2.1∧wr .i64 (getO (qbo (wr IntKind.u64 (↑(List.length x0):Int)) (wr IntKind.u64 x1))).2.1*(8:Int)≤(1099511627776:Int)) (R.gd ((0:Nat)+Int.toNat (wr .i64 (getO (qbo (wr IntKind.u64 (↑(List.length x0):Int)) (wr IntKind.u64 x1))).2.1)≤List.length (List.replicate (Int.toNat (wr .i64 (getO (qbo (wr IntKind.u64 (↑(List.length x0):Int)) (wr IntKind.u64 x1))).2.1)) (0:Int))) (R.wh (fun (d2:Int×Int×List Int×Unit)=>bif ilt d2.2.1 (↑(Int.toNat d2.1):Int) then R.gd ((0:Int)≤d2.2.1∧d2.2.1≤(↑(Int.toNat d2.1):Int)) (R.gd ((0:Int)≤d2.2.1∧d2.2.1≤(↑(Int.toNat d2.1):Int)) (R.gd ((0:Nat)+Int.toNat d2.2.1≤List.length d2.2.2.1) (R.gd ((0:Nat)+Int.toNat d2.2.1+(Int.toNat d2.1-Int.toNat d2.2.1)≤List.length d2.2.2.1) (some (Lp.go (((↑(Int.toNat d2.1):Int),wr .i64 (d2.2.1+(↑(Nat.min (List.length (List.take (Int.toNat d2.2.1) (List.drop (0:Nat) d2.2.2.1))) (Int.toNat d2.1-Int.toNat d2.2.1)):Int)),setMany d2.2.2.1 ((0:Nat)+Int.toNat d2.2.1) (List.take (Int.toNat d2.1-Int.toNat d2.2.1) (List.take (Int.toNat d2.2.1) (List.drop (0:Nat) d2.2.2.1))),()):Int×Int×List Int×Unit)))))) else R.gd (Int.toNat d2.1=List.length d2.2.2.1) (some (Lp.out ((d2.2.2.1,()):List Int×Unit)))) (((↑(Int.toNat (wr .i64 (getO (qbo (wr IntKind.u64 (↑(List.length x0):Int)) (wr IntKind.u64 x1))).2.1)):Int),(↑(Nat.min (List.length x0) (Int.toNat (wr .i64 (getO (qbo (wr IntKind.u64 (↑(List.length x0):Int)) (wr IntKind.u64 x1))).2.1))):Int),setMany (List.replicate (Int.toNat (wr .i64 (getO (qbo (wr IntKind.u64 (↑(List.length x0):Int)) (wr IntKind.u64 x1))).2.1)) (0:Int)) (0:Nat) (List.take (Int.toNat (wr .i64 (getO (qbo (wr IntKind.u64 (↑(List.length x0):Int)) (wr IntKind.u64 x1))).2.1)) x0),()):Int×Int×List Int×Unit))))) else R.gd ((0:Int)≤wr .i64 (getO (qbo (wr IntKind.u64 (↑(List.length x0):Int)) (wr IntKind.u64 x1))).2.1∧wr .i64 (getO (qbo (wr IntKind.u64 (↑(List.length x0):Int)) (wr IntKind.u64 x1))).2.1≤wr .i64 (getO (qbo (wr IntKind.u64 (↑(List.length x0):Int)) (wr IntKind.u64 x1))).2.1∧wr .i64 (getO (qbo (wr IntKind.u64 (↑(List.length x0):Int)) (wr IntKind.u64 x1))).2.1*(8:Int)≤(1099511627776:Int)) (R.gd ((0:Nat)+Int.toNat (wr .i64 (getO (qbo (wr IntKind.u64 (↑(List.length x0):Int)) (wr IntKind.u64 x1))).2.1)≤List.length (List.replicate (Int.toNat (wr .i64 (getO (qbo (wr IntKind.u64 (↑(List.length x0):Int)) (wr IntKind.u64 x1))).2.1)) (0:Int))) (R.wh (fun (d2:Int×Int×List Int×Unit)=>bif ilt d2.2.1 (↑(Int.toNat d2.1):Int) then R.gd ((0:Int)≤d2.2.1∧d2.2.1≤(↑(Int.toNat d2.1):Int)) (R.gd ((0:Int)≤d2.2.1∧d2.2.1≤(↑(Int.toNat d2.1):Int)) (R.gd ((0:Nat)+Int.toNat d2.2.1≤List.length d2.2.2.1) (R.gd ((0:Nat)+Int.toNat d2.2.1+(Int.toNat d2.1-Int.toNat d2.2.1)≤List.length d2.2.2.1) (some (Lp.go (((↑(Int.toNat d2.1):Int),wr .i64 (d2.2.1+(↑(Nat.min (List.length (List.take (Int.toNat d2.2.1) (List.drop (0:Nat) d2.2.2.1))) (Int.toNat d2.1-Int.toNat d2.2.1)):Int)),setMany d2.2.2.1 ((0:Nat)+Int.toNat d2.2.1) (List.take (Int.toNat d2.1-Int.toNat d2.2.1) (List.take (Int.toNat d2.2.1) (List.drop (0:Nat) d2.2.2.1))),()):Int×Int×List Int×Unit)))))) else R.gd (Int.toNat d2.1=List.length d2.2.2.1) (some (Lp.out ((d2.2.2.1,()):List Int×Unit)))) (((↑(Int.toNat (wr .i64 (getO (qbo (wr IntKind.u64 (↑(List.length x0):Int)) (wr IntKind.u64 x1))).2.1)):Int),(↑(Nat.min (List.length x0) (Int.toNat (wr .i64 (getO (qbo (wr IntKind.u64 (↑(List.length x0):Int)) (wr IntKind.u64 x1))).2.1))):Int),setMany (List.replicate (Int.toNat (wr .i64 (getO (qbo (wr IntKind.u64 (↑(List.length x0):Int)) (wr IntKind.u64 x1))).2.1)) (0:Int)) (0:Nat) (List.take (Int.toNat (wr .i64 (getO (qbo (wr IntKind.u64 (↑(List.length x0):Int)) (wr IntKind.u64 x1))).2.1)) x0),()):Int×Int×List Int×Unit)))))))) else R.gd (okO (qbo (wr IntKind.u64 (↑(List.length x0):Int)) (wr IntKind.u64 x1))) (R.gd ((!ilt (0:Int) (getO (qbo (wr IntKind.u64 (↑(List.length x0):Int)) (wr IntKind.u64 x1))).1)=true→(!ilt (0:Int) (getO (qbo (wr IntKind.u64 (↑(List.length x0):Int)) (wr IntKind.u64 x1))).1)=true) (R.gd (ilt (0:Int) (getO (qbo (wr IntKind.u64 (↑(List.length x0):Int)) (wr IntKind.u64 x1))).1=false→(!ilt (0:Int) (getO (qbo (wr IntKind.u64 (↑(List.length x0):Int)) (wr IntKind.u64 x1))).1)=true) (bif bif ilt (0:Int) (getO (qbo (wr IntKind.u64 (↑(List.length x0):Int)) (wr IntKind.u64 x1))).1 then true else ilt (9223372036854775807:Int) (getO (qbo (wr IntKind.u64 (↑(List.length x0):Int)) (wr IntKind.u64 x1))).2.1 then R.gd False (R.gd False (R.gd ((0:Int)≤wr .i64 (getO (qbo (wr IntKind.u64 (↑(List.length x0):Int)) (wr IntKind.u64 x1))).2.1∧wr .i64 (getO (qbo (wr IntKind.u64 (↑(List.length x0):Int)) (wr IntKind.u64 x1))).2.1≤wr .i64 (getO (qbo (wr IntKind.u64 (↑(List.length x0):Int)) (wr IntKind.u64 x1))).2.1∧wr .i64 (getO (qbo (wr IntKind.u64 (↑(List.length x0):Int)) (wr IntKind.u64 x1))).2.1*(8:Int)≤(1099511627776:Int)) (R.gd ((0:Nat)+Int.toNat (wr .i64 (getO (qbo (wr IntKind.u64 (↑(List.length x0):Int)) (wr IntKind.u64 x1))).2.1)≤List.length (List.replicate (Int.toNat (wr .i64 (getO (qbo (wr IntKind.u64 (↑(List.length x0):Int)) (wr IntKind.u64 x1))).2.1)) (0:Int))) (R.wh (fun (d2:Int×Int×List Int×Unit)=>bif ilt d2.2.1 (↑(Int.toNat d2.1):Int) then R.gd ((0:Int)≤d2.2.1∧d2.2.1≤(↑(Int.toNat d2.1):Int)) (R.gd ((0:Int)≤d2.2.1∧d2.2.1≤(↑(Int.toNat d2.1):Int)) (R.gd ((0:Nat)+Int.toNat d2.2.1≤List.length d2.2.2.1) (R.gd ((0:Nat)+Int.toNat d2.2.1+(Int.toNat d2.1-Int.toNat d2.2.1)≤List.length d2.2.2.1) (some (Lp.go (((↑(Int.toNat d2.1):Int),wr .i64 (d2.2.1+(↑(Nat.min (List.length (List.take (Int.toNat d2.2.1) (List.drop (0:Nat) d2.2.2.1))) (Int.toNat d2.1-Int.toNat d2.2.1)):Int)),setMany d2.2.2.1 ((0:Nat)+Int.toNat d2.2.1) (List.take (Int.toNat d2.1-Int.toNat d2.2.1) (List.take (Int.toNat d2.2.1) (List.drop (0:Nat) d2.2.2.1))),()):Int×Int×List Int×Unit)))))) else R.gd (Int.toNat d2.1=List.length d2.2.2.1) (some (Lp.out ((d2.2.2.1,()):List Int×Unit)))) (((↑(Int.toNat (wr .i64 (getO (qbo (wr IntKind.u64 (↑(List.length x0):Int)) (wr IntKind.u64 x1))).2.1)):Int),(↑(Nat.min (List.length x0) (Int.toNat (wr .i64 (getO (qbo (wr IntKind.u64 (↑(List.length x0):Int)) (wr IntKind.u64 x1))).2.1))):Int),setMany (List.replicate (Int.toNat (wr .i64 (getO (qbo (wr IntKind.u64 (↑(List.length x0):Int)) (wr IntKind.u64 x1))).2.1)) (0:Int)) (0:Nat) (List.take (Int.toNat (wr .i64 (getO (qbo (wr IntKind.u64 (↑(List.length x0):Int)) (wr IntKind.u64 x1))).2.1)) x0),()):Int×Int×List Int×Unit))))) else R.gd ((0:Int)≤wr .i64 (getO (qbo (wr IntKind.u64 (↑(List.length x0):Int)) (wr IntKind.u64 x1))).2.1∧wr .i64 (getO (qbo (wr IntKind.u64 (↑(List.length x0):Int)) (wr IntKind.u64 x1))).2.1≤wr .i64 (getO (qbo (wr IntKind.u64 (↑(List.length x0):Int)) (wr IntKind.u64 x1))).2.1∧wr .i64 (getO (qbo (wr IntKind.u64 (↑(List.length x0):Int)) (wr IntKind.u64 x1))).2.1*(8:Int)≤(1099511627776:Int)) (R.gd ((0:Nat)+Int.toNat (wr .i64 (getO (qbo (wr IntKind.u64 (↑(List.length x0):Int)) (wr IntKind.u64 x1))).2.1)≤List.length (List.replicate (Int.toNat (wr .i64 (getO (qbo (wr IntKind.u64 (↑(List.length x0):Int)) (wr IntKind.u64 x1))).2.1)) (0:Int))) (R.wh (fun (d2:Int×Int×List Int×Unit)=>bif ilt d2.2.1 (↑(Int.toNat d2.1):Int) then R.gd ((0:Int)≤d2.2.1∧d2.2.1≤(↑(Int.toNat d2.1):Int)) (R.gd ((0:Int)≤d2.2.1∧d2.2.1≤(↑(Int.toNat d2.1):Int)) (R.gd ((0:Nat)+Int.toNat d2.2.1≤List.length d2.2.2.1) (R.gd ((0:Nat)+Int.toNat d2.2.1+(Int.toNat d2.1-Int.toNat d2.2.1)≤List.length d2.2.2.1) (some (Lp.go (((↑(Int.toNat d2.1):Int),wr .i64 (d2.2.1+(↑(Nat.min (List.length (List.take (Int.toNat d2.2.1) (List.drop (0:Nat) d2.2.2.1))) (Int.toNat d2.1-Int.toNat d2.2.1)):Int)),setMany d2.2.2.1 ((0:Nat)+Int.toNat d2.2.1) (List.take (Int.toNat d2.1-Int.toNat d2.2.1) (List.take (Int.toNat d2.2.1) (List.drop (0:Nat) d2.2.2.1))),()):Int×Int×List Int×Unit)))))) else R.gd (Int.toNat d2.1=List.length d2.2.2.1) (some (Lp.out ((d2.2.2.1,()):List Int×Unit)))) (((↑(Int.toNat (wr .i64 (getO (qbo (wr IntKind.u64 (↑(List.length x0):Int)) (wr IntKind.u64 x1))).2.1)):Int),(↑(Nat.min (List.length x0) (Int.toNat (wr .i64 (getO (qbo (wr IntKind.u64 (↑(List.length x0):Int)) (wr IntKind.u64 x1))).2.1))):Int),setMany (List.replicate (Int.toNat (wr .i64 (getO (qbo (wr IntKind.u64 (↑(List.length x0):Int)) (wr IntKind.u64 x1))).2.1)) (0:Int)) (0:Nat) (List.take (Int.toNat (wr .i64 (getO (qbo (wr IntKind.u64 (↑(List.length x0):Int)) (wr IntKind.u64 x1))).2.1)) x0),()):Int×Int×List Int×Unit))))))
def g71z (x0:List Int) (x1:Int):Option (List Int×Unit):=b71z rkO x0 x1
def q1n:List LSh:=LSh.mk (((7,TV.sl (0) (1) (0)):Nat×TV)::((8,TV.v (Ty.int .i64)):Nat×TV)::([]:List (Nat×TV))) (TB.arr (Ty.int .i64) true::([]:List TB))::([]:List LSh)
def h44z (x0 x1:List Int):Option (Int×Unit):=b44z (rkF 200) x0 x1
theorem zc5 {n:Nat} (x0 x1:List Int):LeO (b44z (rkF n) x0 x1) (b44z rkO x0 x1):=by
 unfold b44z
 repeat' first | with_reducible exact qae | with_reducible refine qam ?_ | with_reducible refine qad ?_ ?_ | with_reducible refine qai ?_ | with_reducible refine qao ?_ ?_ | (refine qan fun s=>?_;try dsimp only)
theorem q99 (x0 x1:List Int):LeO (h44z x0 x1) (g44z x0 x1):=zc5 x0 x1
def qo8:Con:=mkC 44 [.d LI,.d LI] [I64] (fun (x0 x1:List Int)=>[okO (h44z x0 x1)]) (fun (x0 x1:List Int)=>@getO ((Int×Unit)) _ (h44z x0 x1))
theorem zbz:qo8.goal Tryz.prog (spOf [qip]) qzt [] lm30:=by
 have e:(∀ (x0 x1:List Int),okO (h44z x0 x1)→g44z x0 x1=some (getO (h44z x0 x1)))=qo8.goal Tryz.prog (spOf [qip]) qzt [] lm30:=by kernel_rfl
 rw [← e];intro x0 x1 h;exact qaq (q99 x0 x1) h
theorem zgs:qo8.Ok Tryz.prog:=Con.of_goal mixed (okC q87 okN) qo8 zbz
def h73z (x0:Option GD) (x1:Int):Option (Int×Unit):=b73z (rkF 200) x0 x1
theorem q70 {n:Nat} (x0:Option GD) (x1:Int):LeO (b73z (rkF n) x0 x1) (b73z rkO x0 x1):=by
 unfold b73z
 repeat' first | with_reducible exact qae | with_reducible refine qam ?_ | with_reducible refine qad ?_ ?_ | with_reducible refine qai ?_ | with_reducible refine qao ?_ ?_ | (refine qan fun s=>?_;try dsimp only)
theorem zak (x0:Option GD) (x1:Int):LeO (h73z x0 x1) (g73z x0 x1):=q70 x0 x1
def qp5:Con:=mkC 73 [.d (.optr GT),.d I64] [I64] (fun (x0:Option GD) (x1:Int)=>[okO (h73z x0 x1)]) (fun (x0:Option GD) (x1:Int)=>@getO ((Int×Unit)) _ (h73z x0 x1))
theorem q76:qp5.goal Tryz.prog (spOf [qgn]) qz5 [] lm30:=by
 have e:(∀ (x0:Option GD) (x1:Int),okO (h73z x0 x1)→g73z x0 x1=some (getO (h73z x0 x1)))=qp5.goal Tryz.prog (spOf [qgn]) qz5 [] lm30:=by kernel_rfl
 rw [← e];intro x0 x1 h;exact qaq (zak x0 x1) h
theorem zgw:qp5.Ok Tryz.prog:=Con.of_goal mixed (okC q5q okN) qp5 q76
def h75z (x0:Option GD) (x1:Int):Option (Int×Unit):=b75z (rkF 200) x0 x1
theorem zcm {n:Nat} (x0:Option GD) (x1:Int):LeO (b75z (rkF n) x0 x1) (b75z rkO x0 x1):=by
 unfold b75z
 repeat' first | with_reducible exact qae | with_reducible refine qam ?_ | with_reducible refine qad ?_ ?_ | with_reducible refine qai ?_ | with_reducible refine qao ?_ ?_ | (refine qan fun s=>?_;try dsimp only)
theorem zb7 (x0:Option GD) (x1:Int):LeO (h75z x0 x1) (g75z x0 x1):=zcm x0 x1
def qo6:Con:=mkC 75 [.d (.optr GT),.d I64] [I64] (fun (x0:Option GD) (x1:Int)=>[okO (h75z x0 x1)]) (fun (x0:Option GD) (x1:Int)=>@getO ((Int×Unit)) _ (h75z x0 x1))
theorem zba:qo6.goal Tryz.prog (spOf [qgn]) q0w [] lm30:=by
 have e:(∀ (x0:Option GD) (x1:Int),okO (h75z x0 x1)→g75z x0 x1=some (getO (h75z x0 x1)))=qo6.goal Tryz.prog (spOf [qgn]) q0w [] lm30:=by kernel_rfl
 rw [← e];intro x0 x1 h;exact qaq (zb7 x0 x1) h
theorem zgv:qo6.Ok Tryz.prog:=Con.of_goal mixed (okC q5q okN) qo6 zba
def h71z (x0:List Int) (x1:Int):Option (List Int×Unit):=b71z (rkF 200) x0 x1
theorem za7 {n:Nat} (x0:List Int) (x1:Int):LeO (b71z (rkF n) x0 x1) (b71z rkO x0 x1):=by
 unfold b71z
 repeat' first | with_reducible exact qae | with_reducible refine qam ?_ | with_reducible refine qad ?_ ?_ | with_reducible refine qai ?_ | with_reducible refine qao ?_ ?_ | (refine qan fun s=>?_;try dsimp only)
theorem q8u (x0:List Int) (x1:Int):LeO (h71z x0 x1) (g71z x0 x1):=za7 x0 x1
def qow:SCon:=mkS 71 [.v LI,.v I64] [] [.slf 0 1] [.arr I64 true] (fun (x0:List Int) (x1:Int)=>[okO (h71z x0 x1)]) (fun (x0:List Int) (x1:Int)=>@getO ((List Int×Unit)) _ (h71z x0 x1))
theorem q9y:qow.goal Tryz.prog (spS [] [qky]) q1n [] lm30:=by
 have e:(∀ (x0:List Int) (x1:Int),okO (h71z x0 x1)→g71z x0 x1=some (getO (h71z x0 x1)))=qow.goal Tryz.prog (spS [] [qky]) q1n [] lm30:=by kernel_rfl
 rw [← e];intro x0 x1 h;exact qaq (q8u x0 x1) h
theorem zgc:qow.Ok Tryz.prog:=SCon.of_goal mixed (okC ze0 okN) okS0 qow q9y
def b43z (R:Rk) (x0 x1:E5):Option (Int×Unit):=R.gd ((5:Nat)≤(5:Nat)) (R.gd ((5:Nat)≤(5:Nat)) (R.gd (okO (h44z (fl5 x0) (fl5 x1))) (some (((getO (h44z (fl5 x0) (fl5 x1))).1,()):Int×Unit))))
def g43z (x0 x1:E5):Option (Int×Unit):=b43z rkO x0 x1
def qzk:List LSh:=([]:List LSh)
def b74z (R:Rk) (x0:Int) (x1:Option GD):Option (Bool×Unit):=R.gd (Option.isSome x1=true) (R.wh (fun (d2:Int×Unit)=>bif ilt d2.1 (↑(List.length (Option.getD x1 (((0:Int),([]:List E5),([]:List (E5×Int)),([]:List (List Int)),([]:List Int),([]:List Int),(0:Int),()):GD)).2.2.2.1):Int) then R.gd ((0:Int)≤d2.1∧d2.1<(↑(List.length (Option.getD x1 (((0:Int),([]:List E5),([]:List (E5×Int)),([]:List (List Int)),([]:List Int),([]:List Int),(0:Int),()):GD)).2.2.2.1):Int)) (R.gd ((0:Int)≤(0:Int)∧(0:Int)<(↑(List.length (List.getD (Option.getD x1 (((0:Int),([]:List E5),([]:List (E5×Int)),([]:List (List Int)),([]:List Int),([]:List Int),(0:Int),()):GD)).2.2.2.1 (Int.toNat d2.1) ([]:List Int))):Int)) (R.gd (okO (h75z x1 (List.getD (List.getD (Option.getD x1 (((0:Int),([]:List E5),([]:List (E5×Int)),([]:List (List Int)),([]:List Int),([]:List Int),(0:Int),()):GD)).2.2.2.1 (Int.toNat d2.1) ([]:List Int)) (0:Nat) (0:Int)))) (R.gd ((getO (h75z x1 (List.getD (List.getD (Option.getD x1 (((0:Int),([]:List E5),([]:List (E5×Int)),([]:List (List Int)),([]:List Int),([]:List Int),(0:Int),()):GD)).2.2.2.1 (Int.toNat d2.1) ([]:List Int)) (0:Nat) (0:Int)))).1≠(0:Int)) (bif !ieq (Int.tmod (wr .i64 (x0-(1:Int))) (getO (h75z x1 (List.getD (List.getD (Option.getD x1 (((0:Int),([]:List E5),([]:List (E5×Int)),([]:List (List Int)),([]:List Int),([]:List Int),(0:Int),()):GD)).2.2.2.1 (Int.toNat d2.1) ([]:List Int)) (0:Nat) (0:Int)))).1) (0:Int) then some (Lp.out ((false,()):Bool×Unit)) else some (Lp.go ((wr .i64 (d2.1+(1:Int)),()):Int×Unit)))))) else R.gd (okO (h76z x0)) (some (Lp.out (((getO (h76z x0)).1,()):Bool×Unit)))) (((0:Int),()):Int×Unit))
def g74z (x0:Int) (x1:Option GD):Option (Bool×Unit):=b74z rkO x0 x1
def q0p:List LSh:=LSh.mk (((11,TV.v (Ty.int .i64)):Nat×TV)::([]:List (Nat×TV))) ([]:List TB)::([]:List LSh)
def h43z (x0 x1:E5):Option (Int×Unit):=b43z (rkF 200) x0 x1
theorem zb0 {n:Nat} (x0 x1:E5):LeO (b43z (rkF n) x0 x1) (b43z rkO x0 x1):=by
 unfold b43z
 repeat' first | with_reducible exact qae | with_reducible refine qam ?_ | with_reducible refine qad ?_ ?_ | with_reducible refine qai ?_ | with_reducible refine qao ?_ ?_ | (refine qan fun s=>?_;try dsimp only)
theorem zaw (x0 x1:E5):LeO (h43z x0 x1) (g43z x0 x1):=zb0 x0 x1
def qee:Con:=mkC 43 [.d P5,.d P5] [I64] (fun (x0 x1:E5)=>[okO (h43z x0 x1)]) (fun (x0 x1:E5)=>@getO ((Int×Unit)) _ (h43z x0 x1))
theorem zc3:qee.goal Tryz.prog (spOf [qo8]) qzk [] lm30:=by
 have e:(∀ (x0 x1:E5),okO (h43z x0 x1)→g43z x0 x1=some (getO (h43z x0 x1)))=qee.goal Tryz.prog (spOf [qo8]) qzk [] lm30:=by kernel_rfl
 rw [← e];intro x0 x1 h;exact qaq (zaw x0 x1) h
theorem qx9:qee.Ok Tryz.prog:=Con.of_goal mixed (okC zgs okN) qee zc3
def h74z (x0:Int) (x1:Option GD):Option (Bool×Unit):=b74z (rkF 200) x0 x1
theorem zdd {n:Nat} (x0:Int) (x1:Option GD):LeO (b74z (rkF n) x0 x1) (b74z rkO x0 x1):=by
 unfold b74z
 repeat' first | with_reducible exact qae | with_reducible refine qam ?_ | with_reducible refine qad ?_ ?_ | with_reducible refine qai ?_ | with_reducible refine qao ?_ ?_ | (refine qan fun s=>?_;try dsimp only)
theorem q9t (x0:Int) (x1:Option GD):LeO (h74z x0 x1) (g74z x0 x1):=zdd x0 x1
def qo0:Con:=mkC 74 [.d I64,.d (.ptr (.optr GT))] [.bool] (fun (x0:Int) (x1:Option GD)=>[okO (h74z x0 x1)]) (fun (x0:Int) (x1:Option GD)=>@getO ((Bool×Unit)) _ (h74z x0 x1))
theorem za2:qo0.goal Tryz.prog (spOf [qo6,qop]) q0p [] lm30:=by
 have e:(∀ (x0:Int) (x1:Option GD),okO (h74z x0 x1)→g74z x0 x1=some (getO (h74z x0 x1)))=qo0.goal Tryz.prog (spOf [qo6,qop]) q0p [] lm30:=by kernel_rfl
 rw [← e];intro x0 x1 h;exact qaq (q9t x0 x1) h
theorem zfw:qo0.Ok Tryz.prog:=Con.of_goal mixed (okC zgv (okC zfz okN)) qo0 za2
end
end Go.Top
