/- read,told by constants. -/
import Derived.Test.YtieimmiiaabpgaaGreatXG
import Derived.Test.YtieimmiiaabpgaaGreatTG2
import Derived.Test.YtieimmiiaabpgaaGreatTK1
import Derived.Test.YtieimmiiaabpgaaGreatTK2
set_option linter.unusedVariables false
set_option linter.unusedSimpArgs false
set_option maxRecDepth 100000
namespace Go.Top
noncomputable section
open Go Go.Ab Go.Proofs Go.Schur
theorem q9k:∀ p∈gtab,h23z p.1=some (some (grF p.1),0,()):=by
 intro p hp;simp only [gtab,List.mem_cons,List.not_mem_nil,or_false] at hp
 rcases hp with rfl | rfl | rfl | rfl | rfl | rfl | rfl | rfl
 ·exact qjo gok0
 ·exact qjo gok1
 ·exact qjo gok2
 ·exact qjo gok3
 ·exact qjo gok4
 ·exact qjo gok5
 ·exact qjo gok6
 ·exact qjo gok7
theorem q9l:qij.goal Tryz.prog (spS [qpz,qpp,qqi] [qp9,qlc]) qzo [4029,1071] lm30:=by
 have e:(∀ (g:List (List Int)),memG g gtab=true→g23z g=some (some (grF g),(0:Int),()))=qij.goal Tryz.prog (spS [qpz,qpp,qqi] [qp9,qlc]) qzo [4029,1071] lm30:=by kernel_rfl
 rw [← e];intro g h;obtain ⟨p,hp,rfl⟩:=q01 h;exact q81 _ _ (q9k p hp)
theorem zco:qij.Ok Tryz.prog:=Con.of_goalS mixed (okC zf6 (okC zen okN)) (okS zgx (okS zfs (okS zgl okS0))) qij q9l
theorem zdp:∀ p∈gtt,h32z (some p.1)=some (tabD (some p.1),()):=by
 intro p hp;simp only [gtt,List.mem_cons,List.not_mem_nil,or_false] at hp
 rcases hp with rfl | rfl | rfl | rfl
 ·exact qvo tk0
 ·exact qvo tk1
 ·exact qvo tk2
 ·exact qvo tk3
theorem q79:qpb.goal Tryz.prog (spS [qph] [qpu,qqg,qqn]) qzf [7020009] lm30:=by
 have e:(∀ (g:Option GD),memD g=true→g32z g=some (tabD g,()))=qpb.goal Tryz.prog (spS [qph] [qpu,qqg,qqn]) qzf [7020009] lm30:=by kernel_rfl
 rw [← e];intro g h;obtain ⟨p,hp,rfl⟩:=zcn h;exact q8f _ _ (zdp p hp)
theorem zf9:qpb.Ok Tryz.prog:=Con.of_goalS mixed (okC zf8 (okC zfx (okC zgu okN))) (okS zge okS0) qpb q79
def b12z (R:Rk) (x0:List (List Int)):Option (List (List Int)×Int×Unit):=R.gd (memG x0 gtab=true) (bif !ieq (0:Int) (0:Int) then some ((([]:List (List Int)),(0:Int),()):List (List Int)×Int×Unit) else R.gd (memD (some (grF x0))=true) (R.gd ((0:Nat)=(0:Nat)) (R.wh (fun (d1:Int×List (List Int)×Unit)=>bif ilt d1.1 (↑(List.length (tabD (some (grF x0)))):Int) then R.gd ((0:Int)≤d1.1∧d1.1<(↑(List.length (tabD (some (grF x0)))):Int)) (R.gd (List.length d1.2.1≤List.length d1.2.1) (R.gd ((List.length d1.2.1+(1:Nat))*(24:Nat)≤(1099511627776:Nat)) (R.gd (List.length d1.2.1+(1:Nat)=List.length (List.take (List.length d1.2.1) d1.2.1++List.getD (tabD (some (grF x0))) (Int.toNat d1.1) ([]:List Int)::([]:List (List Int)))) (some (Lp.go ((wr .i64 (d1.1+(1:Int)),List.take (List.length d1.2.1) d1.2.1++List.getD (tabD (some (grF x0))) (Int.toNat d1.1) ([]:List Int)::([]:List (List Int)),()):Int×List (List Int)×Unit)))))) else R.gd ((0:Nat)+List.length d1.2.1≤List.length d1.2.1) (some (Lp.out ((List.take (List.length d1.2.1) (List.drop (0:Nat) d1.2.1),(0:Int),()):List (List Int)×Int×Unit)))) (((0:Int),([]:List (List Int)),()):Int×List (List Int)×Unit))))
def g12z (x0:List (List Int)):Option (List (List Int)×Int×Unit):=b12z rkO x0
def q3n:List LSh:=LSh.mk (((6,TV.slf (0) (1)):Nat×TV)::((20,TV.v (Ty.int .i64)):Nat×TV)::([]:List (Nat×TV))) (TB.arr (Ty.slice (Ty.int .i64)) true::([]:List TB))::([]:List LSh)
def b5z (R:Rk) (x0:List (List Int)):Option (List (List Int)×Int×Unit):=R.gd (memG x0 gtab=true) (bif !ieq (0:Int) (0:Int) then some ((([]:List (List Int)),(0:Int),()):List (List Int)×Int×Unit) else R.gd (true=true) (R.gd ((0:Nat)=(0:Nat)) (R.wh (fun (d1:Int×List (List Int)×Unit)=>bif ilt d1.1 (↑(List.length (grF x0).2.1):Int) then R.gd ((0:Int)≤d1.1∧d1.1<(↑(List.length (grF x0).2.1):Int)) (R.gd ((5:Nat)≤(5:Nat)) (R.gd (true=true) (R.gd ((0:Int)≤(grF x0).1∧(grF x0).1≤(5:Int)) (R.gd ((0:Nat)+Int.toNat (grF x0).1≤(5:Nat)) (R.gd (List.length (List.take (Int.toNat (grF x0).1) (fl5 (List.getD (grF x0).2.1 (Int.toNat d1.1) z5)))≤(100000:Nat)) (R.gd (List.length d1.2.1≤List.length d1.2.1) (R.gd ((List.length d1.2.1+(1:Nat))*(24:Nat)≤(1099511627776:Nat)) (R.gd (List.length d1.2.1+(1:Nat)=List.length (List.take (List.length d1.2.1) d1.2.1++List.take (Int.toNat (grF x0).1) (fl5 (List.getD (grF x0).2.1 (Int.toNat d1.1) z5))::([]:List (List Int)))) (some (Lp.go ((wr .i64 (d1.1+(1:Int)),List.take (List.length d1.2.1) d1.2.1++List.take (Int.toNat (grF x0).1) (fl5 (List.getD (grF x0).2.1 (Int.toNat d1.1) z5))::([]:List (List Int)),()):Int×List (List Int)×Unit))))))))))) else R.gd ((0:Nat)+List.length d1.2.1≤List.length d1.2.1) (some (Lp.out ((List.take (List.length d1.2.1) (List.drop (0:Nat) d1.2.1),(0:Int),()):List (List Int)×Int×Unit)))) (((0:Int),([]:List (List Int)),()):Int×List (List Int)×Unit))))
def g5z (x0:List (List Int)):Option (List (List Int)×Int×Unit):=b5z rkO x0
def q7d:List LSh:=LSh.mk (((6,TV.slf (0) (1)):Nat×TV)::((22,TV.v (Ty.int .i64)):Nat×TV)::([]:List (Nat×TV))) (TB.arr (Ty.slice (Ty.int .i64)) true::([]:List TB))::([]:List LSh)
def qxd (R:Rk) (x0:List (List Int)) (x1:Int) (d2 d3:Int×Int×Unit):Option (Lp (Int×Int×Unit) (Lp (Int×Int×Unit) (Int×Int×Unit))):=bif ilt d3.2.1 (getO (h27z (some (grF x0)) ((List.getD (grF x0).2.1 (Int.toNat d2.2.1) z5):E5))).1 then some (Lp.go ((wr .i64 (d3.1*x1),wr .i64 (d3.2.1+(1:Int)),()):Int×Int×Unit)) else some (Lp.out (Lp.go ((wr .i64 (d2.1+d3.1),wr .i64 (d2.2.1+(1:Int)),()):Int×Int×Unit)))
def b7z (R:Rk) (x0:List (List Int)) (x1:Int):Option (Int×Int×Unit):=R.gd (memG x0 gtab=true) (R.gd ((!ieq (0:Int) (2:Int))=true→(!ieq (0:Int) (2:Int))=true) (R.gd (ieq (0:Int) (2:Int)=false→(!ieq (0:Int) (2:Int))=true) (R.gd ((!bif ieq (0:Int) (2:Int) then true else ilt x1 (0:Int))=true→(!bif ieq (0:Int) (2:Int) then true else ilt x1 (0:Int))=true) (R.gd ((bif ieq (0:Int) (2:Int) then true else ilt x1 (0:Int))=false→(!bif ieq (0:Int) (2:Int) then true else ilt x1 (0:Int))=true) (bif bif bif ieq (0:Int) (2:Int) then true else ilt x1 (0:Int) then true else ilt (8:Int) x1 then some (((0:Int),(2:Int),()):Int×Int×Unit) else bif !ieq (0:Int) (0:Int) then some (((0:Int),(0:Int),()):Int×Int×Unit) else R.gd (true=true) (R.wh (fun (d2:Int×Int×Unit)=>bif ilt d2.2.1 (↑(List.length (grF x0).2.1):Int) then R.gd ((0:Int)≤d2.2.1∧d2.2.1<(↑(List.length (grF x0).2.1):Int)) (R.gd ((5:Nat)≤(5:Nat)) (R.gd ((5:Nat)≤(5:Nat)) (R.gd (okO (h27z (some (grF x0)) ((List.getD (grF x0).2.1 (Int.toNat d2.2.1) z5):E5))) (R.wh (qxd R x0 x1 d2) (((1:Int),(0:Int),()):Int×Int×Unit))))) else R.gd (true=true) (R.gd ((↑(List.length (grF x0).2.1):Int)≠(0:Int)) (some (Lp.out ((wr .i64 (Int.tdiv d2.1 (↑(List.length (grF x0).2.1):Int)),(0:Int),()):Int×Int×Unit))))) (((0:Int),(0:Int),()):Int×Int×Unit)))))))
def g7z (x0:List (List Int)) (x1:Int):Option (Int×Int×Unit):=b7z rkO x0 x1
def q7e:List LSh:=LSh.mk (((8,TV.v (Ty.int .i64)):Nat×TV)::((37,TV.v (Ty.int .i64)):Nat×TV)::([]:List (Nat×TV))) ([]:List TB)::LSh.mk (((11,TV.v (Ty.int .i64)):Nat×TV)::((44,TV.v (Ty.int .i64)):Nat×TV)::([]:List (Nat×TV))) ([]:List TB)::([]:List LSh)
def qw1 (R:Rk) (x0:List Int) (d1:Int×Int×List Int×Unit) (d2:Int×Int×Int×List Int×Unit):Option (Lp (Int×Int×Int×List Int×Unit) (Lp (Int×Int×List Int×Unit) (List Int×Unit))):=R.gd (ile (0:Int) d2.2.2.1=true→ile (0:Int) d2.2.2.1=true) (R.gd (ile (0:Int) d2.2.2.1=true→ile (0:Int) d2.2.2.1=true∧ile (0:Int) d2.2.2.1=true) (R.gd (ile (0:Int) d2.2.2.1=true→ile (0:Int) d2.2.2.1=true) (R.gd ((bif ile (0:Int) d2.2.2.1 then ilt d2.2.2.1 (↑(List.length x0):Int) else false)=true→(bif ile (0:Int) d2.2.2.1 then ilt d2.2.2.1 (↑(List.length x0):Int) else false)=true∧(bif ile (0:Int) d2.2.2.1 then ilt d2.2.2.1 (↑(List.length x0):Int) else false)=true∧(0:Int)≤d2.2.2.1) (R.gd ((bif ile (0:Int) d2.2.2.1 then ilt d2.2.2.1 (↑(List.length x0):Int) else false)=true→(bif ile (0:Int) d2.2.2.1 then ilt d2.2.2.1 (↑(List.length x0):Int) else false)=true) (R.gd ((bif ile (0:Int) d2.2.2.1 then ilt d2.2.2.1 (↑(List.length x0):Int) else false)=true→(bif ile (0:Int) d2.2.2.1 then ilt d2.2.2.1 (↑(List.length x0):Int) else false)=true) (R.gd ((bif ile (0:Int) d2.2.2.1 then ilt d2.2.2.1 (↑(List.length x0):Int) else false)=true→(bif ile (0:Int) d2.2.2.1 then ilt d2.2.2.1 (↑(List.length x0):Int) else false)=true) (bif bif bif ile (0:Int) d2.2.2.1 then ilt d2.2.2.1 (↑(List.length x0):Int) else false then ieq (iand IntKind.i64 (ishr IntKind.i64 d2.1 d2.2.2.1) (1:Int)) (0:Int) else false then R.gd ((0:Int)≤d2.2.2.1) (R.gd ((0:Int)≤d2.2.2.1∧d2.2.2.1<(↑(List.length x0):Int)) (R.gd (List.length d2.2.2.2.1=List.length d2.2.2.2.1) (some (Lp.go ((ior IntKind.i64 d2.1 (ishl IntKind.i64 (1:Int) d2.2.2.1),wr .i64 (d2.2.1+(1:Int)),List.getD x0 (Int.toNat d2.2.2.1) (0:Int),d2.2.2.2.1,()):Int×Int×Int×List Int×Unit))))) else bif ilt (0:Int) d2.2.1 then R.gd (List.length d2.2.2.2.1≤List.length d2.2.2.2.1) (R.gd ((List.length d2.2.2.2.1+(1:Nat))*(8:Nat)≤(1099511627776:Nat)) (R.gd (List.length d2.2.2.2.1+(1:Nat)=List.length (List.take (List.length d2.2.2.2.1) d2.2.2.2.1++d2.2.1::([]:List Int))) (some (Lp.out (Lp.go ((d2.1,wr .i64 (d1.2.1+(1:Int)),List.take (List.length d2.2.2.2.1) d2.2.2.2.1++d2.2.1::([]:List Int),()):Int×Int×List Int×Unit)))))) else R.gd (List.length d2.2.2.2.1=List.length d2.2.2.2.1) (some (Lp.out (Lp.go ((d2.1,wr .i64 (d1.2.1+(1:Int)),d2.2.2.2.1,()):Int×Int×List Int×Unit)))))))))))
def b9z (R:Rk) (x0:List Int):Option (List Int×Unit):=R.gd ((0:Nat)=(0:Nat)) (R.wh (fun (d1:Int×Int×List Int×Unit)=>bif ilt d1.2.1 (↑(List.length x0):Int) then R.gd (List.length d1.2.2.1=List.length d1.2.2.1) (R.wh (qw1 R x0 d1) ((d1.1,(0:Int),d1.2.1,d1.2.2.1,()):Int×Int×Int×List Int×Unit)) else R.gd (List.length d1.2.2.1=List.length d1.2.2.1) (R.gd (List.length d1.2.2.1<(4611686018427387904:Nat)) (R.gd (List.length d1.2.2.1=List.length (insS d1.2.2.1)) (R.gd (okO (h30z (insS d1.2.2.1))) (R.gd ((0:Nat)+List.length d1.2.2.1≤List.length (getO (h30z (insS d1.2.2.1))).1) (some (Lp.out ((List.take (List.length d1.2.2.1) (List.drop (0:Nat) (getO (h30z (insS d1.2.2.1))).1),()):List Int×Unit)))))))) (((0:Int),(0:Int),([]:List Int),()):Int×Int×List Int×Unit))
def g9z (x0:List Int):Option (List Int×Unit):=b9z rkO x0
def q6v:List LSh:=LSh.mk (((3,TV.slf (0) (1)):Nat×TV)::((4,TV.v (Ty.int .i64)):Nat×TV)::((10,TV.v (Ty.int .i64)):Nat×TV)::([]:List (Nat×TV))) (TB.arr (Ty.int .i64) true::([]:List TB))::LSh.mk (((3,TV.slf (0) (1)):Nat×TV)::((4,TV.v (Ty.int .i64)):Nat×TV)::((6,TV.v (Ty.int .i64)):Nat×TV)::((7,TV.v (Ty.int .i64)):Nat×TV)::([]:List (Nat×TV))) (TB.arr (Ty.int .i64) true::([]:List TB))::([]:List LSh)
def b31z (R:Rk) (x0 x1:List (List Int)):Option (Bool×Unit):=bif !ieq (↑(List.length x0):Int) (↑(List.length x1):Int) then some ((false,()):Bool×Unit) else R.wh (fun (d2:Int×Unit)=>bif ilt d2.1 (↑(List.length x0):Int) then R.gd ((0:Int)≤d2.1∧d2.1<(↑(List.length x0):Int)) (R.gd ((0:Int)≤d2.1∧d2.1<(↑(List.length x1):Int)) (R.gd (okO (h22z (List.getD x0 (Int.toNat d2.1) ([]:List Int)) (List.getD x1 (Int.toNat d2.1) ([]:List Int)))) (bif !(getO (h22z (List.getD x0 (Int.toNat d2.1) ([]:List Int)) (List.getD x1 (Int.toNat d2.1) ([]:List Int)))).1 then some (Lp.out ((false,()):Bool×Unit)) else some (Lp.go ((wr .i64 (d2.1+(1:Int)),()):Int×Unit))))) else some (Lp.out ((true,()):Bool×Unit))) (((0:Int),()):Int×Unit)
def g31z (x0 x1:List (List Int)):Option (Bool×Unit):=b31z rkO x0 x1
def q0t:List LSh:=LSh.mk (((2,TV.fn (22) TV.nil):Nat×TV)::((17,TV.v (Ty.int .i64)):Nat×TV)::([]:List (Nat×TV))) ([]:List TB)::([]:List LSh)
def h12z (x0:List (List Int)):Option (List (List Int)×Int×Unit):=b12z (rkF 200) x0
theorem zb2 {n:Nat} (x0:List (List Int)):LeO (b12z (rkF n) x0) (b12z rkO x0):=by
 unfold b12z
 repeat' first | with_reducible exact qae | with_reducible refine qam ?_ | with_reducible refine qad ?_ ?_ | with_reducible refine qai ?_ | with_reducible refine qao ?_ ?_ | (refine qan fun s=>?_;try dsimp only)
theorem zbu (x0:List (List Int)):LeO (h12z x0) (g12z x0):=zb2 x0
def h5z (x0:List (List Int)):Option (List (List Int)×Int×Unit):=b5z (rkF 200) x0
theorem zfk {n:Nat} (x0:List (List Int)):LeO (b5z (rkF n) x0) (b5z rkO x0):=by
 unfold b5z
 repeat' first | with_reducible exact qae | with_reducible refine qam ?_ | with_reducible refine qad ?_ ?_ | with_reducible refine qai ?_ | with_reducible refine qao ?_ ?_ | (refine qan fun s=>?_;try dsimp only)
theorem ze1 (x0:List (List Int)):LeO (h5z x0) (g5z x0):=zfk x0
def qyf:Con:=mkC 5 [.d LLI] [LLI,I64] (fun (x0:List (List Int))=>[okO (h5z x0)]) (fun (x0:List (List Int))=>@getO ((List (List Int)×Int×Unit)) _ (h5z x0))
theorem zd6:qyf.goal Tryz.prog (spOf [qij,qst]) q7d [] lm30:=by
 have e:(∀ (x0:List (List Int)),okO (h5z x0)→g5z x0=some (getO (h5z x0)))=qyf.goal Tryz.prog (spOf [qij,qst]) q7d [] lm30:=by kernel_rfl
 rw [← e];intro x0 h;exact qaq (ze1 x0) h
theorem ok5z:qyf.Ok Tryz.prog:=Con.of_goal mixed (okC zco (okC ok39 okN)) qyf zd6
theorem q2t {n:Nat} (x0:List (List Int)) (x1:Int) (d2 d3:Int×Int×Unit):LeO (qxd (rkF n) x0 x1 d2 d3) (qxd rkO x0 x1 d2 d3):=by
 unfold qxd
 repeat' first | with_reducible exact qae | with_reducible apply q6w | with_reducible refine qam ?_ | with_reducible refine qad ?_ ?_ | with_reducible refine qai ?_ | with_reducible refine qao ?_ ?_ | (refine qan fun s=>?_;try dsimp only)
def h7z (x0:List (List Int)) (x1:Int):Option (Int×Int×Unit):=b7z (rkF 200) x0 x1
theorem q6w {n:Nat} (x0:List (List Int)) (x1:Int):LeO (b7z (rkF n) x0 x1) (b7z rkO x0 x1):=by
 unfold b7z
 repeat' first | with_reducible exact qae | with_reducible apply q2t | with_reducible refine qam ?_ | with_reducible refine qad ?_ ?_ | with_reducible refine qai ?_ | with_reducible refine qao ?_ ?_ | (refine qan fun s=>?_;try dsimp only)
theorem zec (x0:List (List Int)) (x1:Int):LeO (h7z x0 x1) (g7z x0 x1):=q6w x0 x1
def qx1:Con:=mkC 7 [.d LLI,.d I64] [I64,I64] (fun (x0:List (List Int)) (x1:Int)=>[okO (h7z x0 x1)]) (fun (x0:List (List Int)) (x1:Int)=>@getO ((Int×Int×Unit)) _ (h7z x0 x1))
theorem zev:qx1.goal Tryz.prog (spOf [qij,qp6]) q7e [] lm30:=by
 have e:(∀ (x0:List (List Int)) (x1:Int),okO (h7z x0 x1)→g7z x0 x1=some (getO (h7z x0 x1)))=qx1.goal Tryz.prog (spOf [qij,qp6]) q7e [] lm30:=by kernel_rfl
 rw [← e];intro x0 x1 h;exact qaq (zec x0 x1) h
theorem ok7z:qx1.Ok Tryz.prog:=Con.of_goal mixed (okC zco (okC zgg okN)) qx1 zev
theorem q2w {n:Nat} (x0:List Int) (d1:Int×Int×List Int×Unit) (d2:Int×Int×Int×List Int×Unit):LeO (qw1 (rkF n) x0 d1 d2) (qw1 rkO x0 d1 d2):=by
 unfold qw1
 repeat' first | with_reducible exact qae | with_reducible apply q67 | with_reducible refine qam ?_ | with_reducible refine qad ?_ ?_ | with_reducible refine qai ?_ | with_reducible refine qao ?_ ?_ | (refine qan fun s=>?_;try dsimp only)
def h9z (x0:List Int):Option (List Int×Unit):=b9z (rkF 200) x0
theorem q67 {n:Nat} (x0:List Int):LeO (b9z (rkF n) x0) (b9z rkO x0):=by
 unfold b9z
 repeat' first | with_reducible exact qae | with_reducible apply q2w | with_reducible refine qam ?_ | with_reducible refine qad ?_ ?_ | with_reducible refine qai ?_ | with_reducible refine qao ?_ ?_ | (refine qan fun s=>?_;try dsimp only)
theorem ze7 (x0:List Int):LeO (h9z x0) (g9z x0):=q67 x0
def qx4:Con:=mkC 9 [.d LI] [LI] (fun (x0:List Int)=>[okO (h9z x0)]) (fun (x0:List Int)=>@getO ((List Int×Unit)) _ (h9z x0))
theorem zfo:qx4.goal Tryz.prog (spS [qvk 29 true,qpw] []) q6v [] lm30:=by
 have e:(∀ (x0:List Int),okO (h9z x0)→g9z x0=some (getO (h9z x0)))=qx4.goal Tryz.prog (spS [qvk 29 true,qpw] []) q6v [] lm30:=by kernel_rfl
 rw [← e];intro x0 h;exact qaq (ze7 x0) h
theorem ok9z:qx4.Ok Tryz.prog:=Con.of_goalS mixed okN (okS (zdv true) (okS zf7 okS0)) qx4 zfo
def h31z (x0 x1:List (List Int)):Option (Bool×Unit):=b31z (rkF 200) x0 x1
theorem zai {n:Nat} (x0 x1:List (List Int)):LeO (b31z (rkF n) x0 x1) (b31z rkO x0 x1):=by
 unfold b31z
 repeat' first | with_reducible exact qae | with_reducible refine qam ?_ | with_reducible refine qad ?_ ?_ | with_reducible refine qai ?_ | with_reducible refine qao ?_ ?_ | (refine qan fun s=>?_;try dsimp only)
theorem q8s (x0 x1:List (List Int)):LeO (h31z x0 x1) (g31z x0 x1):=zai x0 x1
def qp1:Con:=mkC 31 [.d LLI,.d LLI,.fn 22 []] [.bool] (fun (x0 x1:List (List Int))=>[okO (h31z x0 x1)]) (fun (x0 x1:List (List Int))=>@getO ((Bool×Unit)) _ (h31z x0 x1))
theorem zbg:qp1.goal Tryz.prog (spOf [qo1]) q0t [] lm30:=by
 have e:(∀ (x0 x1:List (List Int)),okO (h31z x0 x1)→g31z x0 x1=some (getO (h31z x0 x1)))=qp1.goal Tryz.prog (spOf [qo1]) q0t [] lm30:=by kernel_rfl
 rw [← e];intro x0 x1 h;exact qaq (q8s x0 x1) h
theorem zgr:qp1.Ok Tryz.prog:=Con.of_goal mixed (okC zgf okN) qp1 zbg
def ttab:List (List (List Int)×List (List Int)):=[([[0],[0]],[[1]]),([[1,0],[1,0]],[[1,1],[1,2]]),([[1,2,0],[1,0,2]],[[1,1,1],[1,6,1],[2,0,6]]),([[1,2,3,0],[1,0,2,3]],[[1,1,1,1,1],[1,36,1,1,36],[2,0,36,2,0],[3,1,0,36,36],[3,36,0,36,1]]),([[1,0]],[[1,1],[1,2]])]
def tabG (g:List (List Int)):List (List Int):=zat [] g ttab
def qqk:Con:=mkC 12 [.d LLI] [LLI,I64] (fun (g:List (List Int))=>[memG g ttab=true]) (fun (g:List (List Int))=>(tabG g,(0:Int),()))
def isA (o:Option (List (List Int)×Int×Unit)) (l:List (List Int)):Bool:=match o with
 | some x=>eqL (eqL ieq) x.1 l && ieq x.2.1 0
 | none=>false
theorem qsf {o:Option (List (List Int)×Int×Unit)} {l:List (List Int)} (h:isA o l=true):o=some (l,0,()):=by
 match o,h with
 | some (a,b,()),h =>
  simp only [isA,wa3] at h;have e1:a=l:=eqLL h.1;have e2:=qfo.1 h.2;subst e1 e2;rfl
end
end Go.Top
