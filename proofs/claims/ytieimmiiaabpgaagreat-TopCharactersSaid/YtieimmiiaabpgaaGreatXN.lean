/- read,told by constants. -/
import Derived.Test.YtieimmiiaabpgaaGreatXG
import Derived.Test.YtieimmiiaabpgaaGreatTG2
import Derived.Test.YtieimmiiaabpgaaGreatTK1
import Derived.Test.YtieimmiiaabpgaaGreatTK2
set_option linter.unusedVariables false
set_option linter.unusedSimpArgs false
set_option maxRecDepth 100000
namespace Go.Top
noncomputable section
open Go Go.Ab Go.Proofs Go.Schur
theorem q9a:∀ p∈gtab,h23z p.1=some (some (grF p.1),0,()):=by
 intro p hp;simp only [gtab,List.mem_cons,List.not_mem_nil,or_false] at hp
 rcases hp with rfl | rfl | rfl | rfl | rfl | rfl | rfl | rfl
 ·exact qkb gok0
 ·exact qkb gok1
 ·exact qkb gok2
 ·exact qkb gok3
 ·exact qkb gok4
 ·exact qkb gok5
 ·exact qkb gok6
 ·exact qkb gok7
theorem zco:qes.goal Tryz.prog (spS [qqc,qpt,qqk] [qo6,ql0]) qzm [4029,1071] lm30:=by
 have e:(∀ (g:List (List Int)),memG g gtab=true→g23z g=some (some (grF g),(0:Int),()))=qes.goal Tryz.prog (spS [qqc,qpt,qqk] [qo6,ql0]) qzm [4029,1071] lm30:=by kernel_rfl
 rw [← e];intro g h;obtain ⟨p,hp,rfl⟩:=qvl h;exact q73 _ _ (q9a p hp)
theorem qx6:qes.Ok Tryz.prog:=Con.of_goalS mixed (okC ze0 (okC zeo okN)) (okS ze2 (okS zes (okS ze6 okS0))) qes zco
theorem zd1:∀ p∈gtt,h32z (some p.1)=some (tabD (some p.1),()):=by
 intro p hp;simp only [gtt,List.mem_cons,List.not_mem_nil,or_false] at hp
 rcases hp with rfl | rfl | rfl | rfl
 ·exact qv1 tk0
 ·exact qv1 tk1
 ·exact qv1 tk2
 ·exact qv1 tk3
theorem q7p:qlt.goal Tryz.prog (spS [qqf] [qpk,qqg,qqd]) q0q [7020009] lm30:=by
 have e:(∀ (g:Option GD),memD g=true→g32z g=some (tabD g,()))=qlt.goal Tryz.prog (spS [qqf] [qpk,qqg,qqd]) q0q [7020009] lm30:=by kernel_rfl
 rw [← e];intro g h;obtain ⟨p,hp,rfl⟩:=q9z h;exact q8j _ _ (zd1 p hp)
theorem zdy:qlt.Ok Tryz.prog:=Con.of_goalS mixed (okC zex (okC ze8 (okC zfi okN))) (okS zfk okS0) qlt q7p
def b12z (R:Rk) (x0:List (List Int)):Option (List (List Int)×Int×Unit):=R.gd (memG x0 gtab=true) (bif !ieq (0:Int) (0:Int) then some ((([]:List (List Int)),(0:Int),()):List (List Int)×Int×Unit) else R.gd (memD (some (grF x0))=true) (R.gd ((0:Nat)=(0:Nat)) (R.wh (fun (d1:Int×List (List Int)×Unit)=>bif ilt d1.1 (↑(List.length (tabD (some (grF x0)))):Int) then R.gd ((0:Int)≤d1.1∧d1.1<(↑(List.length (tabD (some (grF x0)))):Int)) (R.gd (List.length d1.2.1≤List.length d1.2.1) (R.gd ((List.length d1.2.1+(1:Nat))*(24:Nat)≤(1099511627776:Nat)) (R.gd (List.length d1.2.1+(1:Nat)=List.length (List.take (List.length d1.2.1) d1.2.1++List.getD (tabD (some (grF x0))) (Int.toNat d1.1) ([]:List Int)::([]:List (List Int)))) (some (Lp.go ((wr .i64 (d1.1+(1:Int)),List.take (List.length d1.2.1) d1.2.1++List.getD (tabD (some (grF x0))) (Int.toNat d1.1) ([]:List Int)::([]:List (List Int)),()):Int×List (List Int)×Unit)))))) else R.gd ((0:Nat)+List.length d1.2.1≤List.length d1.2.1) (some (Lp.out ((List.take (List.length d1.2.1) (List.drop (0:Nat) d1.2.1),(0:Int),()):List (List Int)×Int×Unit)))) (((0:Int),([]:List (List Int)),()):Int×List (List Int)×Unit))))
def g12z (x0:List (List Int)):Option (List (List Int)×Int×Unit):=b12z rkO x0
def q19:List LSh:=LSh.mk (((6,TV.slf (0) (1)):Nat×TV)::((20,TV.v (Ty.int .i64)):Nat×TV)::([]:List (Nat×TV))) (TB.arr (Ty.slice (Ty.int .i64)) true::([]:List TB))::([]:List LSh)
def b17z (R:Rk) (x0:List (List Int)) (x1:List Int):Option (List Int×Int×Unit):=R.gd (memG x0 gtab=true) (bif !ieq (0:Int) (0:Int) then some ((([]:List Int),(0:Int),()):List Int×Int×Unit) else R.gd (okO (h35z (some (grF x0)) x1)) (bif !(getO (h35z (some (grF x0)) x1)).1 then some ((([]:List Int),(2:Int),()):List Int×Int×Unit) else R.gd (memD (some (grF x0))=true) (R.gd ((0:Nat)=(0:Nat)) (R.wh (fun (d2:Int×List Int×Unit)=>bif ilt d2.1 (↑(List.length (tabD (some (grF x0)))):Int) then R.gd ((0:Int)≤d2.1∧d2.1<(↑(List.length (tabD (some (grF x0)))):Int)) (R.gd (okO (h36z (some (grF x0)) (List.getD (tabD (some (grF x0))) (Int.toNat d2.1) ([]:List Int)) x1)) (R.gd (List.length d2.2.1≤List.length d2.2.1) (R.gd ((List.length d2.2.1+(1:Nat))*(8:Nat)≤(1099511627776:Nat)) (R.gd (List.length d2.2.1+(1:Nat)=List.length (List.take (List.length d2.2.1) d2.2.1++(getO (h36z (some (grF x0)) (List.getD (tabD (some (grF x0))) (Int.toNat d2.1) ([]:List Int)) x1)).1::([]:List Int))) (some (Lp.go ((wr .i64 (d2.1+(1:Int)),List.take (List.length d2.2.1) d2.2.1++(getO (h36z (some (grF x0)) (List.getD (tabD (some (grF x0))) (Int.toNat d2.1) ([]:List Int)) x1)).1::([]:List Int),()):Int×List Int×Unit))))))) else R.gd ((0:Nat)+List.length d2.2.1≤List.length d2.2.1) (some (Lp.out ((List.take (List.length d2.2.1) (List.drop (0:Nat) d2.2.1),(0:Int),()):List Int×Int×Unit)))) (((0:Int),([]:List Int),()):Int×List Int×Unit)))))
def g17z (x0:List (List Int)) (x1:List Int):Option (List Int×Int×Unit):=b17z rkO x0 x1
def q21:List LSh:=LSh.mk (((8,TV.slf (0) (1)):Nat×TV)::((28,TV.v (Ty.int .i64)):Nat×TV)::([]:List (Nat×TV))) (TB.arr (Ty.int .i64) true::([]:List TB))::([]:List LSh)
def b5z (R:Rk) (x0:List (List Int)):Option (List (List Int)×Int×Unit):=R.gd (memG x0 gtab=true) (bif !ieq (0:Int) (0:Int) then some ((([]:List (List Int)),(0:Int),()):List (List Int)×Int×Unit) else R.gd (true=true) (R.gd ((0:Nat)=(0:Nat)) (R.wh (fun (d1:Int×List (List Int)×Unit)=>bif ilt d1.1 (↑(List.length (grF x0).2.1):Int) then R.gd ((0:Int)≤d1.1∧d1.1<(↑(List.length (grF x0).2.1):Int)) (R.gd ((5:Nat)≤(5:Nat)) (R.gd (true=true) (R.gd ((0:Int)≤(grF x0).1∧(grF x0).1≤(5:Int)) (R.gd ((0:Nat)+Int.toNat (grF x0).1≤(5:Nat)) (R.gd (List.length (List.take (Int.toNat (grF x0).1) (fl5 (List.getD (grF x0).2.1 (Int.toNat d1.1) z5)))≤(100000:Nat)) (R.gd (List.length d1.2.1≤List.length d1.2.1) (R.gd ((List.length d1.2.1+(1:Nat))*(24:Nat)≤(1099511627776:Nat)) (R.gd (List.length d1.2.1+(1:Nat)=List.length (List.take (List.length d1.2.1) d1.2.1++List.take (Int.toNat (grF x0).1) (fl5 (List.getD (grF x0).2.1 (Int.toNat d1.1) z5))::([]:List (List Int)))) (some (Lp.go ((wr .i64 (d1.1+(1:Int)),List.take (List.length d1.2.1) d1.2.1++List.take (Int.toNat (grF x0).1) (fl5 (List.getD (grF x0).2.1 (Int.toNat d1.1) z5))::([]:List (List Int)),()):Int×List (List Int)×Unit))))))))))) else R.gd ((0:Nat)+List.length d1.2.1≤List.length d1.2.1) (some (Lp.out ((List.take (List.length d1.2.1) (List.drop (0:Nat) d1.2.1),(0:Int),()):List (List Int)×Int×Unit)))) (((0:Int),([]:List (List Int)),()):Int×List (List Int)×Unit))))
def g5z (x0:List (List Int)):Option (List (List Int)×Int×Unit):=b5z rkO x0
def q6z:List LSh:=LSh.mk (((6,TV.slf (0) (1)):Nat×TV)::((22,TV.v (Ty.int .i64)):Nat×TV)::([]:List (Nat×TV))) (TB.arr (Ty.slice (Ty.int .i64)) true::([]:List TB))::([]:List LSh)
def b13z (R:Rk) (x0:List (List Int)):Option (List (List Int)×Int×Unit):=R.gd (memG x0 gtab=true) (bif !ieq (0:Int) (0:Int) then some ((([]:List (List Int)),(0:Int),()):List (List Int)×Int×Unit) else R.gd (true=true) (some (((grF x0).2.2.2.1,(0:Int),()):List (List Int)×Int×Unit)))
def g13z (x0:List (List Int)):Option (List (List Int)×Int×Unit):=b13z rkO x0
def qzo:List LSh:=([]:List LSh)
def b14z (R:Rk) (x0:List (List Int)):Option (Int×Int×Unit):=R.gd (memG x0 gtab=true) (bif !ieq (0:Int) (0:Int) then some (((0:Int),(0:Int),()):Int×Int×Unit) else R.gd (true=true) (some (((grF x0).2.2.2.2.2.2.1,(0:Int),()):Int×Int×Unit)))
def g14z (x0:List (List Int)):Option (Int×Int×Unit):=b14z rkO x0
def qzs:List LSh:=([]:List LSh)
def b16z (R:Rk) (x0:List (List Int)):Option (List Int×Int×Unit):=R.gd (memG x0 gtab=true) (bif !ieq (0:Int) (0:Int) then some ((([]:List Int),(0:Int),()):List Int×Int×Unit) else R.gd (okO (h34z (some (grF x0)))) (some (((getO (h34z (some (grF x0)))).1,(0:Int),()):List Int×Int×Unit)))
def g16z (x0:List (List Int)):Option (List Int×Int×Unit):=b16z rkO x0
def q2g:List LSh:=([]:List LSh)
def qwx (R:Rk) (x0:List Int) (d1:Int×Int×List Int×Unit) (d2:Int×Int×Int×List Int×Unit):Option (Lp (Int×Int×Int×List Int×Unit) (Lp (Int×Int×List Int×Unit) (List Int×Unit))):=R.gd (ile (0:Int) d2.2.2.1=true→ile (0:Int) d2.2.2.1=true) (R.gd (ile (0:Int) d2.2.2.1=true→ile (0:Int) d2.2.2.1=true∧ile (0:Int) d2.2.2.1=true) (R.gd (ile (0:Int) d2.2.2.1=true→ile (0:Int) d2.2.2.1=true) (R.gd ((bif ile (0:Int) d2.2.2.1 then ilt d2.2.2.1 (↑(List.length x0):Int) else false)=true→(bif ile (0:Int) d2.2.2.1 then ilt d2.2.2.1 (↑(List.length x0):Int) else false)=true∧(bif ile (0:Int) d2.2.2.1 then ilt d2.2.2.1 (↑(List.length x0):Int) else false)=true∧(0:Int)≤d2.2.2.1) (R.gd ((bif ile (0:Int) d2.2.2.1 then ilt d2.2.2.1 (↑(List.length x0):Int) else false)=true→(bif ile (0:Int) d2.2.2.1 then ilt d2.2.2.1 (↑(List.length x0):Int) else false)=true) (R.gd ((bif ile (0:Int) d2.2.2.1 then ilt d2.2.2.1 (↑(List.length x0):Int) else false)=true→(bif ile (0:Int) d2.2.2.1 then ilt d2.2.2.1 (↑(List.length x0):Int) else false)=true) (R.gd ((bif ile (0:Int) d2.2.2.1 then ilt d2.2.2.1 (↑(List.length x0):Int) else false)=true→(bif ile (0:Int) d2.2.2.1 then ilt d2.2.2.1 (↑(List.length x0):Int) else false)=true) (bif bif bif ile (0:Int) d2.2.2.1 then ilt d2.2.2.1 (↑(List.length x0):Int) else false then ieq (iand IntKind.i64 (ishr IntKind.i64 d2.1 d2.2.2.1) (1:Int)) (0:Int) else false then R.gd ((0:Int)≤d2.2.2.1) (R.gd ((0:Int)≤d2.2.2.1∧d2.2.2.1<(↑(List.length x0):Int)) (R.gd (List.length d2.2.2.2.1=List.length d2.2.2.2.1) (some (Lp.go ((ior IntKind.i64 d2.1 (ishl IntKind.i64 (1:Int) d2.2.2.1),wr .i64 (d2.2.1+(1:Int)),List.getD x0 (Int.toNat d2.2.2.1) (0:Int),d2.2.2.2.1,()):Int×Int×Int×List Int×Unit))))) else bif ilt (0:Int) d2.2.1 then R.gd (List.length d2.2.2.2.1≤List.length d2.2.2.2.1) (R.gd ((List.length d2.2.2.2.1+(1:Nat))*(8:Nat)≤(1099511627776:Nat)) (R.gd (List.length d2.2.2.2.1+(1:Nat)=List.length (List.take (List.length d2.2.2.2.1) d2.2.2.2.1++d2.2.1::([]:List Int))) (some (Lp.out (Lp.go ((d2.1,wr .i64 (d1.2.1+(1:Int)),List.take (List.length d2.2.2.2.1) d2.2.2.2.1++d2.2.1::([]:List Int),()):Int×Int×List Int×Unit)))))) else R.gd (List.length d2.2.2.2.1=List.length d2.2.2.2.1) (some (Lp.out (Lp.go ((d2.1,wr .i64 (d1.2.1+(1:Int)),d2.2.2.2.1,()):Int×Int×List Int×Unit)))))))))))
def b9z (R:Rk) (x0:List Int):Option (List Int×Unit):=R.gd ((0:Nat)=(0:Nat)) (R.wh (fun (d1:Int×Int×List Int×Unit)=>bif ilt d1.2.1 (↑(List.length x0):Int) then R.gd (List.length d1.2.2.1=List.length d1.2.2.1) (R.wh (qwx R x0 d1) ((d1.1,(0:Int),d1.2.1,d1.2.2.1,()):Int×Int×Int×List Int×Unit)) else R.gd (List.length d1.2.2.1=List.length d1.2.2.1) (R.gd (List.length d1.2.2.1<(4611686018427387904:Nat)) (R.gd (List.length d1.2.2.1=List.length (insS d1.2.2.1)) (R.gd (okO (h30z (insS d1.2.2.1))) (R.gd ((0:Nat)+List.length d1.2.2.1≤List.length (getO (h30z (insS d1.2.2.1))).1) (some (Lp.out ((List.take (List.length d1.2.2.1) (List.drop (0:Nat) (getO (h30z (insS d1.2.2.1))).1),()):List Int×Unit)))))))) (((0:Int),(0:Int),([]:List Int),()):Int×Int×List Int×Unit))
def g9z (x0:List Int):Option (List Int×Unit):=b9z rkO x0
def q69:List LSh:=LSh.mk (((3,TV.slf (0) (1)):Nat×TV)::((4,TV.v (Ty.int .i64)):Nat×TV)::((10,TV.v (Ty.int .i64)):Nat×TV)::([]:List (Nat×TV))) (TB.arr (Ty.int .i64) true::([]:List TB))::LSh.mk (((3,TV.slf (0) (1)):Nat×TV)::((4,TV.v (Ty.int .i64)):Nat×TV)::((6,TV.v (Ty.int .i64)):Nat×TV)::((7,TV.v (Ty.int .i64)):Nat×TV)::([]:List (Nat×TV))) (TB.arr (Ty.int .i64) true::([]:List TB))::([]:List LSh)
def b31z (R:Rk) (x0 x1:List (List Int)):Option (Bool×Unit):=bif !ieq (↑(List.length x0):Int) (↑(List.length x1):Int) then some ((false,()):Bool×Unit) else R.wh (fun (d2:Int×Unit)=>bif ilt d2.1 (↑(List.length x0):Int) then R.gd ((0:Int)≤d2.1∧d2.1<(↑(List.length x0):Int)) (R.gd ((0:Int)≤d2.1∧d2.1<(↑(List.length x1):Int)) (R.gd (okO (h22z (List.getD x0 (Int.toNat d2.1) ([]:List Int)) (List.getD x1 (Int.toNat d2.1) ([]:List Int)))) (bif !(getO (h22z (List.getD x0 (Int.toNat d2.1) ([]:List Int)) (List.getD x1 (Int.toNat d2.1) ([]:List Int)))).1 then some (Lp.out ((false,()):Bool×Unit)) else some (Lp.go ((wr .i64 (d2.1+(1:Int)),()):Int×Unit))))) else some (Lp.out ((true,()):Bool×Unit))) (((0:Int),()):Int×Unit)
def g31z (x0 x1:List (List Int)):Option (Bool×Unit):=b31z rkO x0 x1
def q1p:List LSh:=LSh.mk (((2,TV.fn (22) TV.nil):Nat×TV)::((17,TV.v (Ty.int .i64)):Nat×TV)::([]:List (Nat×TV))) ([]:List TB)::([]:List LSh)
def b21z (R:Rk) (x0 x1:List Int):Option (Bool×Unit):=R.gd (okO (h22z x0 x1)) (some (((getO (h22z x0 x1)).1,()):Bool×Unit))
def g21z (x0 x1:List Int):Option (Bool×Unit):=b21z rkO x0 x1
def q2r:List LSh:=([]:List LSh)
def h12z (x0:List (List Int)):Option (List (List Int)×Int×Unit):=b12z (rkF 200) x0
theorem zci {n:Nat} (x0:List (List Int)):LeO (b12z (rkF n) x0) (b12z rkO x0):=by
 unfold b12z
 repeat' first | with_reducible exact qag | with_reducible refine qap ?_ | with_reducible refine qah ?_ ?_ | with_reducible refine qaj ?_ | with_reducible refine qan ?_ ?_ | (refine qao fun s=>?_;try dsimp only)
theorem q90 (x0:List (List Int)):LeO (h12z x0) (g12z x0):=zci x0
def h17z (x0:List (List Int)) (x1:List Int):Option (List Int×Int×Unit):=b17z (rkF 200) x0 x1
theorem zbq {n:Nat} (x0:List (List Int)) (x1:List Int):LeO (b17z (rkF n) x0 x1) (b17z rkO x0 x1):=by
 unfold b17z
 repeat' first | with_reducible exact qag | with_reducible refine qap ?_ | with_reducible refine qah ?_ ?_ | with_reducible refine qaj ?_ | with_reducible refine qan ?_ ?_ | (refine qao fun s=>?_;try dsimp only)
theorem q81 (x0:List (List Int)) (x1:List Int):LeO (h17z x0 x1) (g17z x0 x1):=zbq x0 x1
def h5z (x0:List (List Int)):Option (List (List Int)×Int×Unit):=b5z (rkF 200) x0
theorem zdp {n:Nat} (x0:List (List Int)):LeO (b5z (rkF n) x0) (b5z rkO x0):=by
 unfold b5z
 repeat' first | with_reducible exact qag | with_reducible refine qap ?_ | with_reducible refine qah ?_ ?_ | with_reducible refine qaj ?_ | with_reducible refine qan ?_ ?_ | (refine qao fun s=>?_;try dsimp only)
theorem zdq (x0:List (List Int)):LeO (h5z x0) (g5z x0):=zdp x0
def qxq:Con:=mkC 5 [.d LLI] [LLI,I64] (fun (x0:List (List Int))=>[okO (h5z x0)]) (fun (x0:List (List Int))=>@getO ((List (List Int)×Int×Unit)) _ (h5z x0))
theorem zdt:qxq.goal Tryz.prog (spOf [qes,qtp]) q6z [] lm30:=by
 have e:(∀ (x0:List (List Int)),okO (h5z x0)→g5z x0=some (getO (h5z x0)))=qxq.goal Tryz.prog (spOf [qes,qtp]) q6z [] lm30:=by kernel_rfl
 rw [← e];intro x0 h;exact qaz (zdq x0) h
theorem ok5z:qxq.Ok Tryz.prog:=Con.of_goal mixed (okC qx6 (okC ok39 okN)) qxq zdt
def h13z (x0:List (List Int)):Option (List (List Int)×Int×Unit):=b13z (rkF 200) x0
theorem q8t {n:Nat} (x0:List (List Int)):LeO (b13z (rkF n) x0) (b13z rkO x0):=by
 unfold b13z
 repeat' first | with_reducible exact qag | with_reducible refine qap ?_ | with_reducible refine qah ?_ ?_ | with_reducible refine qaj ?_ | with_reducible refine qan ?_ ?_ | (refine qao fun s=>?_;try dsimp only)
theorem zbd (x0:List (List Int)):LeO (h13z x0) (g13z x0):=q8t x0
def qov:Con:=mkC 13 [.d LLI] [LLI,I64] (fun (x0:List (List Int))=>[okO (h13z x0)]) (fun (x0:List (List Int))=>@getO ((List (List Int)×Int×Unit)) _ (h13z x0))
theorem q91:qov.goal Tryz.prog (spOf [qes]) qzo [] lm30:=by
 have e:(∀ (x0:List (List Int)),okO (h13z x0)→g13z x0=some (getO (h13z x0)))=qov.goal Tryz.prog (spOf [qes]) qzo [] lm30:=by kernel_rfl
 rw [← e];intro x0 h;exact qaz (zbd x0) h
theorem zfm:qov.Ok Tryz.prog:=Con.of_goal mixed (okC qx6 okN) qov q91
def h14z (x0:List (List Int)):Option (Int×Int×Unit):=b14z (rkF 200) x0
theorem zb6 {n:Nat} (x0:List (List Int)):LeO (b14z (rkF n) x0) (b14z rkO x0):=by
 unfold b14z
 repeat' first | with_reducible exact qag | with_reducible refine qap ?_ | with_reducible refine qah ?_ ?_ | with_reducible refine qaj ?_ | with_reducible refine qan ?_ ?_ | (refine qao fun s=>?_;try dsimp only)
theorem za6 (x0:List (List Int)):LeO (h14z x0) (g14z x0):=zb6 x0
def qqq:Con:=mkC 14 [.d LLI] [I64,I64] (fun (x0:List (List Int))=>[okO (h14z x0)]) (fun (x0:List (List Int))=>@getO ((Int×Int×Unit)) _ (h14z x0))
theorem q9q:qqq.goal Tryz.prog (spOf [qes]) qzs [] lm30:=by
 have e:(∀ (x0:List (List Int)),okO (h14z x0)→g14z x0=some (getO (h14z x0)))=qqq.goal Tryz.prog (spOf [qes]) qzs [] lm30:=by kernel_rfl
 rw [← e];intro x0 h;exact qaz (za6 x0) h
theorem zer:qqq.Ok Tryz.prog:=Con.of_goal mixed (okC qx6 okN) qqq q9q
def h16z (x0:List (List Int)):Option (List Int×Int×Unit):=b16z (rkF 200) x0
theorem zbf {n:Nat} (x0:List (List Int)):LeO (b16z (rkF n) x0) (b16z rkO x0):=by
 unfold b16z
 repeat' first | with_reducible exact qag | with_reducible refine qap ?_ | with_reducible refine qah ?_ ?_ | with_reducible refine qaj ?_ | with_reducible refine qan ?_ ?_ | (refine qao fun s=>?_;try dsimp only)
theorem zby (x0:List (List Int)):LeO (h16z x0) (g16z x0):=zbf x0
def qqs:Con:=mkC 16 [.d LLI] [LI,I64] (fun (x0:List (List Int))=>[okO (h16z x0)]) (fun (x0:List (List Int))=>@getO ((List Int×Int×Unit)) _ (h16z x0))
theorem q9s:qqs.goal Tryz.prog (spOf [qes,qo9]) q2g [] lm30:=by
 have e:(∀ (x0:List (List Int)),okO (h16z x0)→g16z x0=some (getO (h16z x0)))=qqs.goal Tryz.prog (spOf [qes,qo9]) q2g [] lm30:=by kernel_rfl
 rw [← e];intro x0 h;exact qaz (zby x0) h
theorem ze3:qqs.Ok Tryz.prog:=Con.of_goal mixed (okC qx6 (okC zev okN)) qqs q9s
theorem q07 {n:Nat} (x0:List Int) (d1:Int×Int×List Int×Unit) (d2:Int×Int×Int×List Int×Unit):LeO (qwx (rkF n) x0 d1 d2) (qwx rkO x0 d1 d2):=by
 unfold qwx
 repeat' first | with_reducible exact qag | with_reducible apply q62 | with_reducible refine qap ?_ | with_reducible refine qah ?_ ?_ | with_reducible refine qaj ?_ | with_reducible refine qan ?_ ?_ | (refine qao fun s=>?_;try dsimp only)
def h9z (x0:List Int):Option (List Int×Unit):=b9z (rkF 200) x0
theorem q62 {n:Nat} (x0:List Int):LeO (b9z (rkF n) x0) (b9z rkO x0):=by
 unfold b9z
 repeat' first | with_reducible exact qag | with_reducible apply q07 | with_reducible refine qap ?_ | with_reducible refine qah ?_ ?_ | with_reducible refine qaj ?_ | with_reducible refine qan ?_ ?_ | (refine qao fun s=>?_;try dsimp only)
theorem zek (x0:List Int):LeO (h9z x0) (g9z x0):=q62 x0
def qy2:Con:=mkC 9 [.d LI] [LI] (fun (x0:List Int)=>[okO (h9z x0)]) (fun (x0:List Int)=>@getO ((List Int×Unit)) _ (h9z x0))
theorem zel:qy2.goal Tryz.prog (spS [quq 29 true,qo2] []) q69 [] lm30:=by
 have e:(∀ (x0:List Int),okO (h9z x0)→g9z x0=some (getO (h9z x0)))=qy2.goal Tryz.prog (spS [quq 29 true,qo2] []) q69 [] lm30:=by kernel_rfl
 rw [← e];intro x0 h;exact qaz (zek x0) h
theorem ok9z:qy2.Ok Tryz.prog:=Con.of_goalS mixed okN (okS (zdd true) (okS ze1 okS0)) qy2 zel
def h31z (x0 x1:List (List Int)):Option (Bool×Unit):=b31z (rkF 200) x0 x1
theorem q7x {n:Nat} (x0 x1:List (List Int)):LeO (b31z (rkF n) x0 x1) (b31z rkO x0 x1):=by
 unfold b31z
 repeat' first | with_reducible exact qag | with_reducible refine qap ?_ | with_reducible refine qah ?_ ?_ | with_reducible refine qaj ?_ | with_reducible refine qan ?_ ?_ | (refine qao fun s=>?_;try dsimp only)
theorem zcb (x0 x1:List (List Int)):LeO (h31z x0 x1) (g31z x0 x1):=q7x x0 x1
def qpi:Con:=mkC 31 [.d LLI,.d LLI,.fn 22 []] [.bool] (fun (x0 x1:List (List Int))=>[okO (h31z x0 x1)]) (fun (x0 x1:List (List Int))=>@getO ((Bool×Unit)) _ (h31z x0 x1))
theorem q8g:qpi.goal Tryz.prog (spOf [qlq]) q1p [] lm30:=by
 have e:(∀ (x0 x1:List (List Int)),okO (h31z x0 x1)→g31z x0 x1=some (getO (h31z x0 x1)))=qpi.goal Tryz.prog (spOf [qlq]) q1p [] lm30:=by kernel_rfl
 rw [← e];intro x0 x1 h;exact qaz (zcb x0 x1) h
theorem zfq:qpi.Ok Tryz.prog:=Con.of_goal mixed (okC zc7 okN) qpi q8g
def h21z (x0 x1:List Int):Option (Bool×Unit):=b21z (rkF 200) x0 x1
theorem q79 {n:Nat} (x0 x1:List Int):LeO (b21z (rkF n) x0 x1) (b21z rkO x0 x1):=by
 unfold b21z
 repeat' first | with_reducible exact qag | with_reducible refine qap ?_ | with_reducible refine qah ?_ ?_ | with_reducible refine qaj ?_ | with_reducible refine qan ?_ ?_ | (refine qao fun s=>?_;try dsimp only)
theorem q9c (x0 x1:List Int):LeO (h21z x0 x1) (g21z x0 x1):=q79 x0 x1
def qo3:Con:=mkC 21 [.d LI,.d (.ptr LI)] [.bool] (fun (x0 x1:List Int)=>[okO (h21z x0 x1)]) (fun (x0 x1:List Int)=>@getO ((Bool×Unit)) _ (h21z x0 x1))
theorem q94:qo3.goal Tryz.prog (spOf [qlq]) q2r [] lm30:=by
 have e:(∀ (x0 x1:List Int),okO (h21z x0 x1)→g21z x0 x1=some (getO (h21z x0 x1)))=qo3.goal Tryz.prog (spOf [qlq]) q2r [] lm30:=by kernel_rfl
 rw [← e];intro x0 x1 h;exact qaz (q9c x0 x1) h
theorem zfn:qo3.Ok Tryz.prog:=Con.of_goal mixed (okC zc7 okN) qo3 q94
def ttab:List (List (List Int)×List (List Int)):=[([[0],[0]],[[1]]),([[1,0],[1,0]],[[1,1],[1,2]]),([[1,2,0],[1,0,2]],[[1,1,1],[1,6,1],[2,0,6]]),([[1,2,3,0],[1,0,2,3]],[[1,1,1,1,1],[1,36,1,1,36],[2,0,36,2,0],[3,1,0,36,36],[3,36,0,36,1]]),([[1,0]],[[1,1],[1,2]])]
def tabG (g:List (List Int)):List (List Int):=q35 [] g ttab
def stab:List (List (List Int)×List Int×List Int):=[([[0],[0]],[1],[1]),([[1,0],[1,0]],[2,0],[1,1]),([[1,2,0],[1,0,2]],[3,1,0],[1,0,1]),([[1,2,3,0],[1,0,2,3]],[4,2,1,0,0],[1,0,0,1,0])]
def spl (g:List (List Int)):List Int×List Int:=q35 ([],[]) g stab
def qlu:Con:=mkC 12 [.d LLI] [LLI,I64] (fun (g:List (List Int))=>[memG g ttab=true]) (fun (g:List (List Int))=>(tabG g,(0:Int),()))
def qpx:Con:=mkC 17 [.d LLI,.d LI] [LI,I64] (fun (g:List (List Int)) (f:List Int)=>[memG g stab=true∧eqL ieq f (spl g).1=true]) (fun (g:List (List Int)) (f:List Int)=>((spl g).2,(0:Int),()))
def isA (o:Option (List (List Int)×Int×Unit)) (l:List (List Int)):Bool:=match o with
 | some x=>eqL (eqL ieq) x.1 l && ieq x.2.1 0
 | none=>false
theorem qs1 {o:Option (List (List Int)×Int×Unit)} {l:List (List Int)} (h:isA o l=true):o=some (l,0,()):=by
 match o,h with
 | some (a,b,()),h =>
  simp only [isA,wa4] at h;have e1:a=l:=eqLL h.1;have e2:=qdp.1 h.2;subst e1 e2;rfl
def isB (o:Option (List Int×Int×Unit)) (l:List Int):Bool:=match o with
 | some x=>eqL ieq x.1 l && ieq x.2.1 0
 | none=>false
theorem qv5 {o:Option (List Int×Int×Unit)} {l:List Int} (h:isB o l=true):o=some (l,0,()):=by
 match o,h with
 | some (a,b,()),h =>
  simp only [isB,wa4] at h;have e1:a=l:=qkd (fun h=>qdp.1 h) h.1
  have e2:=qdp.1 h.2;subst e1 e2;rfl
end
end Go.Top
