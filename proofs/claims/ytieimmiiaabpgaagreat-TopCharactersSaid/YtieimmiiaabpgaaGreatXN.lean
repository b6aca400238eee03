/- read,told by constants. -/
import Derived.Test.YtieimmiiaabpgaaGreatXG
import Derived.Test.YtieimmiiaabpgaaGreatTG2
import Derived.Test.YtieimmiiaabpgaaGreatTK1
import Derived.Test.YtieimmiiaabpgaaGreatTK2
set_option linter.unusedVariables false
set_option linter.unusedSimpArgs false
set_option maxRecDepth 100000
namespace Go.Top
noncomputable section
open Go Go.Ab Go.Proofs Go.Schur
theorem zbt:∀ p∈gtab,h23z p.1=some (some (grF p.1),0,()):=by
 intro p hp;simp only [gtab,List.mem_cons,List.not_mem_nil,or_false] at hp
 rcases hp with rfl | rfl | rfl | rfl | rfl | rfl | rfl | rfl
 ·exact qjv gok0
 ·exact qjv gok1
 ·exact qjv gok2
 ·exact qjv gok3
 ·exact qjv gok4
 ·exact qjv gok5
 ·exact qjv gok6
 ·exact qjv gok7
theorem zbq:qes.goal Tryz.prog (spS [qph,qpf,qqq] [qqf,qlz]) q0x [4029,1071] lm30:=by
 have e:(∀ (g:List (List Int)),memG g gtab=true→g23z g=some (some (grF g),(0:Int),()))=qes.goal Tryz.prog (spS [qph,qpf,qqq] [qqf,qlz]) q0x [4029,1071] lm30:=by kernel_rfl
 rw [← e];intro g h;obtain ⟨p,hp,rfl⟩:=qt9 h;exact q8q _ _ (zbt p hp)
theorem qxv:qes.Ok Tryz.prog:=Con.of_goalS mixed (okC zft (okC zc5 okN)) (okS zes (okS zfr (okS zfj okS0))) qes zbq
theorem zcz:∀ p∈gtt,h32z (some p.1)=some (tabD (some p.1),()):=by
 intro p hp;simp only [gtt,List.mem_cons,List.not_mem_nil,or_false] at hp
 rcases hp with rfl | rfl | rfl | rfl
 ·exact qwj tk0
 ·exact qwj tk1
 ·exact qwj tk2
 ·exact qwj tk3
theorem q89:ql0.goal Tryz.prog (spS [qor] [qp3,qpk,qpp]) q0a [7020009] lm30:=by
 have e:(∀ (g:Option GD),memD g=true→g32z g=some (tabD g,()))=ql0.goal Tryz.prog (spS [qor] [qp3,qpk,qpp]) q0a [7020009] lm30:=by kernel_rfl
 rw [← e];intro g h;obtain ⟨p,hp,rfl⟩:=zb9 h;exact q9f _ _ (zcz p hp)
theorem zdu:ql0.Ok Tryz.prog:=Con.of_goalS mixed (okC zfx (okC zer (okC zfh okN))) (okS zff okS0) ql0 q89
def b12z (R:Rk) (x0:List (List Int)):Option (List (List Int)×Int×Unit):=R.gd (memG x0 gtab=true) (bif !ieq (0:Int) (0:Int) then some ((([]:List (List Int)),(0:Int),()):List (List Int)×Int×Unit) else R.gd (memD (some (grF x0))=true) (R.gd ((0:Nat)=(0:Nat)) (R.wh (fun (d1:Int×List (List Int)×Unit)=>bif ilt d1.1 (↑(List.length (tabD (some (grF x0)))):Int) then R.gd ((0:Int)≤d1.1∧d1.1<(↑(List.length (tabD (some (grF x0)))):Int)) (R.gd (List.length d1.2.1≤List.length d1.2.1) (R.gd ((List.length d1.2.1+(1:Nat))*(24:Nat)≤(1099511627776:Nat)) (R.gd (List.length d1.2.1+(1:Nat)=List.length (List.take (List.length d1.2.1) d1.2.1++List.getD (tabD (some (grF x0))) (Int.toNat d1.1) ([]:List Int)::([]:List (List Int)))) (some (Lp.go ((wr .i64 (d1.1+(1:Int)),List.take (List.length d1.2.1) d1.2.1++List.getD (tabD (some (grF x0))) (Int.toNat d1.1) ([]:List Int)::([]:List (List Int)),()):Int×List (List Int)×Unit)))))) else R.gd ((0:Nat)+List.length d1.2.1≤List.length d1.2.1) (some (Lp.out ((List.take (List.length d1.2.1) (List.drop (0:Nat) d1.2.1),(0:Int),()):List (List Int)×Int×Unit)))) (((0:Int),([]:List (List Int)),()):Int×List (List Int)×Unit))))
def g12z (x0:List (List Int)):Option (List (List Int)×Int×Unit):=b12z rkO x0
def qzj:List LSh:=LSh.mk (((6,TV.slf (0) (1)):Nat×TV)::((20,TV.v (Ty.int .i64)):Nat×TV)::([]:List (Nat×TV))) (TB.arr (Ty.slice (Ty.int .i64)) true::([]:List TB))::([]:List LSh)
def b17z (R:Rk) (x0:List (List Int)) (x1:List Int):Option (List Int×Int×Unit):=R.gd (memG x0 gtab=true) (bif !ieq (0:Int) (0:Int) then some ((([]:List Int),(0:Int),()):List Int×Int×Unit) else R.gd (okO (h35z (some (grF x0)) x1)) (bif !(getO (h35z (some (grF x0)) x1)).1 then some ((([]:List Int),(2:Int),()):List Int×Int×Unit) else R.gd (memD (some (grF x0))=true) (R.gd ((0:Nat)=(0:Nat)) (R.wh (fun (d2:Int×List Int×Unit)=>bif ilt d2.1 (↑(List.length (tabD (some (grF x0)))):Int) then R.gd ((0:Int)≤d2.1∧d2.1<(↑(List.length (tabD (some (grF x0)))):Int)) (R.gd (okO (h36z (some (grF x0)) (List.getD (tabD (some (grF x0))) (Int.toNat d2.1) ([]:List Int)) x1)) (R.gd (List.length d2.2.1≤List.length d2.2.1) (R.gd ((List.length d2.2.1+(1:Nat))*(8:Nat)≤(1099511627776:Nat)) (R.gd (List.length d2.2.1+(1:Nat)=List.length (List.take (List.length d2.2.1) d2.2.1++(getO (h36z (some (grF x0)) (List.getD (tabD (some (grF x0))) (Int.toNat d2.1) ([]:List Int)) x1)).1::([]:List Int))) (some (Lp.go ((wr .i64 (d2.1+(1:Int)),List.take (List.length d2.2.1) d2.2.1++(getO (h36z (some (grF x0)) (List.getD (tabD (some (grF x0))) (Int.toNat d2.1) ([]:List Int)) x1)).1::([]:List Int),()):Int×List Int×Unit))))))) else R.gd ((0:Nat)+List.length d2.2.1≤List.length d2.2.1) (some (Lp.out ((List.take (List.length d2.2.1) (List.drop (0:Nat) d2.2.1),(0:Int),()):List Int×Int×Unit)))) (((0:Int),([]:List Int),()):Int×List Int×Unit)))))
def g17z (x0:List (List Int)) (x1:List Int):Option (List Int×Int×Unit):=b17z rkO x0 x1
def q0c:List LSh:=LSh.mk (((8,TV.slf (0) (1)):Nat×TV)::((28,TV.v (Ty.int .i64)):Nat×TV)::([]:List (Nat×TV))) (TB.arr (Ty.int .i64) true::([]:List TB))::([]:List LSh)
def b5z (R:Rk) (x0:List (List Int)):Option (List (List Int)×Int×Unit):=R.gd (memG x0 gtab=true) (bif !ieq (0:Int) (0:Int) then some ((([]:List (List Int)),(0:Int),()):List (List Int)×Int×Unit) else R.gd (true=true) (R.gd ((0:Nat)=(0:Nat)) (R.wh (fun (d1:Int×List (List Int)×Unit)=>bif ilt d1.1 (↑(List.length (grF x0).2.1):Int) then R.gd ((0:Int)≤d1.1∧d1.1<(↑(List.length (grF x0).2.1):Int)) (R.gd ((5:Nat)≤(5:Nat)) (R.gd (true=true) (R.gd ((0:Int)≤(grF x0).1∧(grF x0).1≤(5:Int)) (R.gd ((0:Nat)+Int.toNat (grF x0).1≤(5:Nat)) (R.gd (List.length (List.take (Int.toNat (grF x0).1) (fl5 (List.getD (grF x0).2.1 (Int.toNat d1.1) z5)))≤(100000:Nat)) (R.gd (List.length d1.2.1≤List.length d1.2.1) (R.gd ((List.length d1.2.1+(1:Nat))*(24:Nat)≤(1099511627776:Nat)) (R.gd (List.length d1.2.1+(1:Nat)=List.length (List.take (List.length d1.2.1) d1.2.1++List.take (Int.toNat (grF x0).1) (fl5 (List.getD (grF x0).2.1 (Int.toNat d1.1) z5))::([]:List (List Int)))) (some (Lp.go ((wr .i64 (d1.1+(1:Int)),List.take (List.length d1.2.1) d1.2.1++List.take (Int.toNat (grF x0).1) (fl5 (List.getD (grF x0).2.1 (Int.toNat d1.1) z5))::([]:List (List Int)),()):Int×List (List Int)×Unit))))))))))) else R.gd ((0:Nat)+List.length d1.2.1≤List.length d1.2.1) (some (Lp.out ((List.take (List.length d1.2.1) (List.drop (0:Nat) d1.2.1),(0:Int),()):List (List Int)×Int×Unit)))) (((0:Int),([]:List (List Int)),()):Int×List (List Int)×Unit))))
def g5z (x0:List (List Int)):Option (List (List Int)×Int×Unit):=b5z rkO x0
def q62:List LSh:=LSh.mk (((6,TV.slf (0) (1)):Nat×TV)::((22,TV.v (Ty.int .i64)):Nat×TV)::([]:List (Nat×TV))) (TB.arr (Ty.slice (Ty.int .i64)) true::([]:List TB))::([]:List LSh)
def b13z (R:Rk) (x0:List (List Int)):Option (List (List Int)×Int×Unit):=R.gd (memG x0 gtab=true) (bif !ieq (0:Int) (0:Int) then some ((([]:List (List Int)),(0:Int),()):List (List Int)×Int×Unit) else R.gd (true=true) (some (((grF x0).2.2.2.1,(0:Int),()):List (List Int)×Int×Unit)))
def g13z (x0:List (List Int)):Option (List (List Int)×Int×Unit):=b13z rkO x0
def q3j:List LSh:=([]:List LSh)
def b14z (R:Rk) (x0:List (List Int)):Option (Int×Int×Unit):=R.gd (memG x0 gtab=true) (bif !ieq (0:Int) (0:Int) then some (((0:Int),(0:Int),()):Int×Int×Unit) else R.gd (true=true) (some (((grF x0).2.2.2.2.2.2.1,(0:Int),()):Int×Int×Unit)))
def g14z (x0:List (List Int)):Option (Int×Int×Unit):=b14z rkO x0
def q3l:List LSh:=([]:List LSh)
def b16z (R:Rk) (x0:List (List Int)):Option (List Int×Int×Unit):=R.gd (memG x0 gtab=true) (bif !ieq (0:Int) (0:Int) then some ((([]:List Int),(0:Int),()):List Int×Int×Unit) else R.gd (okO (h34z (some (grF x0)))) (some (((getO (h34z (some (grF x0)))).1,(0:Int),()):List Int×Int×Unit)))
def g16z (x0:List (List Int)):Option (List Int×Int×Unit):=b16z rkO x0
def qzf:List LSh:=([]:List LSh)
def qwb (R:Rk) (x0:List Int) (d1:Int×Int×List Int×Unit) (d2:Int×Int×Int×List Int×Unit):Option (Lp (Int×Int×Int×List Int×Unit) (Lp (Int×Int×List Int×Unit) (List Int×Unit))):=R.gd (ile (0:Int) d2.2.2.1=true→ile (0:Int) d2.2.2.1=true) (R.gd (ile (0:Int) d2.2.2.1=true→ile (0:Int) d2.2.2.1=true∧ile (0:Int) d2.2.2.1=true) (R.gd (ile (0:Int) d2.2.2.1=true→ile (0:Int) d2.2.2.1=true) (R.gd ((bif ile (0:Int) d2.2.2.1 then ilt d2.2.2.1 (↑(List.length x0):Int) else false)=true→(bif ile (0:Int) d2.2.2.1 then ilt d2.2.2.1 (↑(List.length x0):Int) else false)=true∧(bif ile (0:Int) d2.2.2.1 then ilt d2.2.2.1 (↑(List.length x0):Int) else false)=true∧(0:Int)≤d2.2.2.1) (R.gd ((bif ile (0:Int) d2.2.2.1 then ilt d2.2.2.1 (↑(List.length x0):Int) else false)=true→(bif ile (0:Int) d2.2.2.1 then ilt d2.2.2.1 (↑(List.length x0):Int) else false)=true) (R.gd ((bif ile (0:Int) d2.2.2.1 then ilt d2.2.2.1 (↑(List.length x0):Int) else false)=true→(bif ile (0:Int) d2.2.2.1 then ilt d2.2.2.1 (↑(List.length x0):Int) else false)=true) (R.gd ((bif ile (0:Int) d2.2.2.1 then ilt d2.2.2.1 (↑(List.length x0):Int) else false)=true→(bif ile (0:Int) d2.2.2.1 then ilt d2.2.2.1 (↑(List.length x0):Int) else false)=true) (bif bif bif ile (0:Int) d2.2.2.1 then ilt d2.2.2.1 (↑(List.length x0):Int) else false then ieq (iand IntKind.i64 (ishr IntKind.i64 d2.1 d2.2.2.1) (1:Int)) (0:Int) else false then R.gd ((0:Int)≤d2.2.2.1) (R.gd ((0:Int)≤d2.2.2.1∧d2.2.2.1<(↑(List.length x0):Int)) (R.gd (List.length d2.2.2.2.1=List.length d2.2.2.2.1) (some (Lp.go ((ior IntKind.i64 d2.1 (ishl IntKind.i64 (1:Int) d2.2.2.1),wr .i64 (d2.2.1+(1:Int)),List.getD x0 (Int.toNat d2.2.2.1) (0:Int),d2.2.2.2.1,()):Int×Int×Int×List Int×Unit))))) else bif ilt (0:Int) d2.2.1 then R.gd (List.length d2.2.2.2.1≤List.length d2.2.2.2.1) (R.gd ((List.length d2.2.2.2.1+(1:Nat))*(8:Nat)≤(1099511627776:Nat)) (R.gd (List.length d2.2.2.2.1+(1:Nat)=List.length (List.take (List.length d2.2.2.2.1) d2.2.2.2.1++d2.2.1::([]:List Int))) (some (Lp.out (Lp.go ((d2.1,wr .i64 (d1.2.1+(1:Int)),List.take (List.length d2.2.2.2.1) d2.2.2.2.1++d2.2.1::([]:List Int),()):Int×Int×List Int×Unit)))))) else R.gd (List.length d2.2.2.2.1=List.length d2.2.2.2.1) (some (Lp.out (Lp.go ((d2.1,wr .i64 (d1.2.1+(1:Int)),d2.2.2.2.1,()):Int×Int×List Int×Unit)))))))))))
def b9z (R:Rk) (x0:List Int):Option (List Int×Unit):=R.gd ((0:Nat)=(0:Nat)) (R.wh (fun (d1:Int×Int×List Int×Unit)=>bif ilt d1.2.1 (↑(List.length x0):Int) then R.gd (List.length d1.2.2.1=List.length d1.2.2.1) (R.wh (qwb R x0 d1) ((d1.1,(0:Int),d1.2.1,d1.2.2.1,()):Int×Int×Int×List Int×Unit)) else R.gd (List.length d1.2.2.1=List.length d1.2.2.1) (R.gd (List.length d1.2.2.1<(4611686018427387904:Nat)) (R.gd (List.length d1.2.2.1=List.length (insS d1.2.2.1)) (R.gd (okO (h30z (insS d1.2.2.1))) (R.gd ((0:Nat)+List.length d1.2.2.1≤List.length (getO (h30z (insS d1.2.2.1))).1) (some (Lp.out ((List.take (List.length d1.2.2.1) (List.drop (0:Nat) (getO (h30z (insS d1.2.2.1))).1),()):List Int×Unit)))))))) (((0:Int),(0:Int),([]:List Int),()):Int×Int×List Int×Unit))
def g9z (x0:List Int):Option (List Int×Unit):=b9z rkO x0
def q65:List LSh:=LSh.mk (((3,TV.slf (0) (1)):Nat×TV)::((4,TV.v (Ty.int .i64)):Nat×TV)::((10,TV.v (Ty.int .i64)):Nat×TV)::([]:List (Nat×TV))) (TB.arr (Ty.int .i64) true::([]:List TB))::LSh.mk (((3,TV.slf (0) (1)):Nat×TV)::((4,TV.v (Ty.int .i64)):Nat×TV)::((6,TV.v (Ty.int .i64)):Nat×TV)::((7,TV.v (Ty.int .i64)):Nat×TV)::([]:List (Nat×TV))) (TB.arr (Ty.int .i64) true::([]:List TB))::([]:List LSh)
def b31z (R:Rk) (x0 x1:List (List Int)):Option (Bool×Unit):=bif !ieq (↑(List.length x0):Int) (↑(List.length x1):Int) then some ((false,()):Bool×Unit) else R.wh (fun (d2:Int×Unit)=>bif ilt d2.1 (↑(List.length x0):Int) then R.gd ((0:Int)≤d2.1∧d2.1<(↑(List.length x0):Int)) (R.gd ((0:Int)≤d2.1∧d2.1<(↑(List.length x1):Int)) (R.gd (okO (h22z (List.getD x0 (Int.toNat d2.1) ([]:List Int)) (List.getD x1 (Int.toNat d2.1) ([]:List Int)))) (bif !(getO (h22z (List.getD x0 (Int.toNat d2.1) ([]:List Int)) (List.getD x1 (Int.toNat d2.1) ([]:List Int)))).1 then some (Lp.out ((false,()):Bool×Unit)) else some (Lp.go ((wr .i64 (d2.1+(1:Int)),()):Int×Unit))))) else some (Lp.out ((true,()):Bool×Unit))) (((0:Int),()):Int×Unit)
def g31z (x0 x1:List (List Int)):Option (Bool×Unit):=b31z rkO x0 x1
def qzd:List LSh:=LSh.mk (((2,TV.fn (22) TV.nil):Nat×TV)::((17,TV.v (Ty.int .i64)):Nat×TV)::([]:List (Nat×TV))) ([]:List TB)::([]:List LSh)
def b21z (R:Rk) (x0 x1:List Int):Option (Bool×Unit):=R.gd (okO (h22z x0 x1)) (some (((getO (h22z x0 x1)).1,()):Bool×Unit))
def g21z (x0 x1:List Int):Option (Bool×Unit):=b21z rkO x0 x1
def q0l:List LSh:=([]:List LSh)
def h12z (x0:List (List Int)):Option (List (List Int)×Int×Unit):=b12z (rkF 200) x0
theorem zax {n:Nat} (x0:List (List Int)):LeO (b12z (rkF n) x0) (b12z rkO x0):=by
 unfold b12z
 repeat' first | with_reducible exact qag | with_reducible refine qan ?_ | with_reducible refine qah ?_ ?_ | with_reducible refine qaj ?_ | with_reducible refine qap ?_ ?_ | (refine qao fun s=>?_;try dsimp only)
theorem zcm (x0:List (List Int)):LeO (h12z x0) (g12z x0):=zax x0
def h17z (x0:List (List Int)) (x1:List Int):Option (List Int×Int×Unit):=b17z (rkF 200) x0 x1
theorem q7p {n:Nat} (x0:List (List Int)) (x1:List Int):LeO (b17z (rkF n) x0 x1) (b17z rkO x0 x1):=by
 unfold b17z
 repeat' first | with_reducible exact qag | with_reducible refine qan ?_ | with_reducible refine qah ?_ ?_ | with_reducible refine qaj ?_ | with_reducible refine qap ?_ ?_ | (refine qao fun s=>?_;try dsimp only)
theorem zb5 (x0:List (List Int)) (x1:List Int):LeO (h17z x0 x1) (g17z x0 x1):=q7p x0 x1
def h5z (x0:List (List Int)):Option (List (List Int)×Int×Unit):=b5z (rkF 200) x0
theorem zc6 {n:Nat} (x0:List (List Int)):LeO (b5z (rkF n) x0) (b5z rkO x0):=by
 unfold b5z
 repeat' first | with_reducible exact qag | with_reducible refine qan ?_ | with_reducible refine qah ?_ ?_ | with_reducible refine qaj ?_ | with_reducible refine qap ?_ ?_ | (refine qao fun s=>?_;try dsimp only)
theorem zd6 (x0:List (List Int)):LeO (h5z x0) (g5z x0):=zc6 x0
def qys:Con:=mkC 5 [.d LLI] [LLI,I64] (fun (x0:List (List Int))=>[okO (h5z x0)]) (fun (x0:List (List Int))=>@getO ((List (List Int)×Int×Unit)) _ (h5z x0))
theorem zdt:qys.goal Tryz.prog (spOf [qes,qsn]) q62 [] lm30:=by
 have e:(∀ (x0:List (List Int)),okO (h5z x0)→g5z x0=some (getO (h5z x0)))=qys.goal Tryz.prog (spOf [qes,qsn]) q62 [] lm30:=by kernel_rfl
 rw [← e];intro x0 h;exact qaz (zd6 x0) h
theorem ok5z:qys.Ok Tryz.prog:=Con.of_goal mixed (okC qxv (okC ok39 okN)) qys zdt
def h13z (x0:List (List Int)):Option (List (List Int)×Int×Unit):=b13z (rkF 200) x0
theorem q7r {n:Nat} (x0:List (List Int)):LeO (b13z (rkF n) x0) (b13z rkO x0):=by
 unfold b13z
 repeat' first | with_reducible exact qag | with_reducible refine qan ?_ | with_reducible refine qah ?_ ?_ | with_reducible refine qaj ?_ | with_reducible refine qap ?_ ?_ | (refine qao fun s=>?_;try dsimp only)
theorem zct (x0:List (List Int)):LeO (h13z x0) (g13z x0):=q7r x0
def qo2:Con:=mkC 13 [.d LLI] [LLI,I64] (fun (x0:List (List Int))=>[okO (h13z x0)]) (fun (x0:List (List Int))=>@getO ((List (List Int)×Int×Unit)) _ (h13z x0))
theorem q9v:qo2.goal Tryz.prog (spOf [qes]) q3j [] lm30:=by
 have e:(∀ (x0:List (List Int)),okO (h13z x0)→g13z x0=some (getO (h13z x0)))=qo2.goal Tryz.prog (spOf [qes]) q3j [] lm30:=by kernel_rfl
 rw [← e];intro x0 h;exact qaz (zct x0) h
theorem zfg:qo2.Ok Tryz.prog:=Con.of_goal mixed (okC qxv okN) qo2 q9v
def h14z (x0:List (List Int)):Option (Int×Int×Unit):=b14z (rkF 200) x0
theorem q96 {n:Nat} (x0:List (List Int)):LeO (b14z (rkF n) x0) (b14z rkO x0):=by
 unfold b14z
 repeat' first | with_reducible exact qag | with_reducible refine qan ?_ | with_reducible refine qah ?_ ?_ | with_reducible refine qaj ?_ | with_reducible refine qap ?_ ?_ | (refine qao fun s=>?_;try dsimp only)
theorem q7x (x0:List (List Int)):LeO (h14z x0) (g14z x0):=q96 x0
def qp1:Con:=mkC 14 [.d LLI] [I64,I64] (fun (x0:List (List Int))=>[okO (h14z x0)]) (fun (x0:List (List Int))=>@getO ((Int×Int×Unit)) _ (h14z x0))
theorem zb1:qp1.goal Tryz.prog (spOf [qes]) q3l [] lm30:=by
 have e:(∀ (x0:List (List Int)),okO (h14z x0)→g14z x0=some (getO (h14z x0)))=qp1.goal Tryz.prog (spOf [qes]) q3l [] lm30:=by kernel_rfl
 rw [← e];intro x0 h;exact qaz (q7x x0) h
theorem zfc:qp1.Ok Tryz.prog:=Con.of_goal mixed (okC qxv okN) qp1 zb1
def h16z (x0:List (List Int)):Option (List Int×Int×Unit):=b16z (rkF 200) x0
theorem zah {n:Nat} (x0:List (List Int)):LeO (b16z (rkF n) x0) (b16z rkO x0):=by
 unfold b16z
 repeat' first | with_reducible exact qag | with_reducible refine qan ?_ | with_reducible refine qah ?_ ?_ | with_reducible refine qaj ?_ | with_reducible refine qap ?_ ?_ | (refine qao fun s=>?_;try dsimp only)
theorem zb4 (x0:List (List Int)):LeO (h16z x0) (g16z x0):=zah x0
def qpb:Con:=mkC 16 [.d LLI] [LI,I64] (fun (x0:List (List Int))=>[okO (h16z x0)]) (fun (x0:List (List Int))=>@getO ((List Int×Int×Unit)) _ (h16z x0))
theorem zbk:qpb.goal Tryz.prog (spOf [qes,qqs]) qzf [] lm30:=by
 have e:(∀ (x0:List (List Int)),okO (h16z x0)→g16z x0=some (getO (h16z x0)))=qpb.goal Tryz.prog (spOf [qes,qqs]) qzf [] lm30:=by kernel_rfl
 rw [← e];intro x0 h;exact qaz (zb4 x0) h
theorem zfl:qpb.Ok Tryz.prog:=Con.of_goal mixed (okC qxv (okC zfv okN)) qpb zbk
theorem q1l {n:Nat} (x0:List Int) (d1:Int×Int×List Int×Unit) (d2:Int×Int×Int×List Int×Unit):LeO (qwb (rkF n) x0 d1 d2) (qwb rkO x0 d1 d2):=by
 unfold qwb
 repeat' first | with_reducible exact qag | with_reducible apply q66 | with_reducible refine qan ?_ | with_reducible refine qah ?_ ?_ | with_reducible refine qaj ?_ | with_reducible refine qap ?_ ?_ | (refine qao fun s=>?_;try dsimp only)
def h9z (x0:List Int):Option (List Int×Unit):=b9z (rkF 200) x0
theorem q66 {n:Nat} (x0:List Int):LeO (b9z (rkF n) x0) (b9z rkO x0):=by
 unfold b9z
 repeat' first | with_reducible exact qag | with_reducible apply q1l | with_reducible refine qan ?_ | with_reducible refine qah ?_ ?_ | with_reducible refine qaj ?_ | with_reducible refine qap ?_ ?_ | (refine qao fun s=>?_;try dsimp only)
theorem zeb (x0:List Int):LeO (h9z x0) (g9z x0):=q66 x0
def qyp:Con:=mkC 9 [.d LI] [LI] (fun (x0:List Int)=>[okO (h9z x0)]) (fun (x0:List Int)=>@getO ((List Int×Unit)) _ (h9z x0))
theorem zdh:qyp.goal Tryz.prog (spS [quh 29 true,qqg] []) q65 [] lm30:=by
 have e:(∀ (x0:List Int),okO (h9z x0)→g9z x0=some (getO (h9z x0)))=qyp.goal Tryz.prog (spS [quh 29 true,qqg] []) q65 [] lm30:=by kernel_rfl
 rw [← e];intro x0 h;exact qaz (zeb x0) h
theorem ok9z:qyp.Ok Tryz.prog:=Con.of_goalS mixed okN (okS (zdi true) (okS zev okS0)) qyp zdh
def h31z (x0 x1:List (List Int)):Option (Bool×Unit):=b31z (rkF 200) x0 x1
theorem zb7 {n:Nat} (x0 x1:List (List Int)):LeO (b31z (rkF n) x0 x1) (b31z rkO x0 x1):=by
 unfold b31z
 repeat' first | with_reducible exact qag | with_reducible refine qan ?_ | with_reducible refine qah ?_ ?_ | with_reducible refine qaj ?_ | with_reducible refine qap ?_ ?_ | (refine qao fun s=>?_;try dsimp only)
theorem zbb (x0 x1:List (List Int)):LeO (h31z x0 x1) (g31z x0 x1):=zb7 x0 x1
def qpa:Con:=mkC 31 [.d LLI,.d LLI,.fn 22 []] [.bool] (fun (x0 x1:List (List Int))=>[okO (h31z x0 x1)]) (fun (x0 x1:List (List Int))=>@getO ((Bool×Unit)) _ (h31z x0 x1))
theorem q7z:qpa.goal Tryz.prog (spOf [qly]) qzd [] lm30:=by
 have e:(∀ (x0 x1:List (List Int)),okO (h31z x0 x1)→g31z x0 x1=some (getO (h31z x0 x1)))=qpa.goal Tryz.prog (spOf [qly]) qzd [] lm30:=by kernel_rfl
 rw [← e];intro x0 x1 h;exact qaz (zbb x0 x1) h
theorem ze6:qpa.Ok Tryz.prog:=Con.of_goal mixed (okC zc4 okN) qpa q7z
def h21z (x0 x1:List Int):Option (Bool×Unit):=b21z (rkF 200) x0 x1
theorem q7t {n:Nat} (x0 x1:List Int):LeO (b21z (rkF n) x0 x1) (b21z rkO x0 x1):=by
 unfold b21z
 repeat' first | with_reducible exact qag | with_reducible refine qan ?_ | with_reducible refine qah ?_ ?_ | with_reducible refine qaj ?_ | with_reducible refine qap ?_ ?_ | (refine qao fun s=>?_;try dsimp only)
theorem zcg (x0 x1:List Int):LeO (h21z x0 x1) (g21z x0 x1):=q7t x0 x1
def qp2:Con:=mkC 21 [.d LI,.d (.ptr LI)] [.bool] (fun (x0 x1:List Int)=>[okO (h21z x0 x1)]) (fun (x0 x1:List Int)=>@getO ((Bool×Unit)) _ (h21z x0 x1))
theorem q7v:qp2.goal Tryz.prog (spOf [qly]) q0l [] lm30:=by
 have e:(∀ (x0 x1:List Int),okO (h21z x0 x1)→g21z x0 x1=some (getO (h21z x0 x1)))=qp2.goal Tryz.prog (spOf [qly]) q0l [] lm30:=by kernel_rfl
 rw [← e];intro x0 x1 h;exact qaz (zcg x0 x1) h
theorem ze9:qp2.Ok Tryz.prog:=Con.of_goal mixed (okC zc4 okN) qp2 q7v
def ttab:List (List (List Int)×List (List Int)):=[([[0],[0]],[[1]]),([[1,0],[1,0]],[[1,1],[1,2]]),([[1,2,0],[1,0,2]],[[1,1,1],[1,6,1],[2,0,6]]),([[1,2,3,0],[1,0,2,3]],[[1,1,1,1,1],[1,36,1,1,36],[2,0,36,2,0],[3,1,0,36,36],[3,36,0,36,1]]),([[1,0]],[[1,1],[1,2]])]
def tabG (g:List (List Int)):List (List Int):=q34 [] g ttab
def stab:List (List (List Int)×List Int×List Int):=[([[0],[0]],[1],[1]),([[1,0],[1,0]],[2,0],[1,1]),([[1,2,0],[1,0,2]],[3,1,0],[1,0,1]),([[1,2,3,0],[1,0,2,3]],[4,2,1,0,0],[1,0,0,1,0])]
def spl (g:List (List Int)):List Int×List Int:=q34 ([],[]) g stab
def qlx:Con:=mkC 12 [.d LLI] [LLI,I64] (fun (g:List (List Int))=>[memG g ttab=true]) (fun (g:List (List Int))=>(tabG g,(0:Int),()))
def qpi:Con:=mkC 17 [.d LLI,.d LI] [LI,I64] (fun (g:List (List Int)) (f:List Int)=>[memG g stab=true∧eqL ieq f (spl g).1=true]) (fun (g:List (List Int)) (f:List Int)=>((spl g).2,(0:Int),()))
def isA (o:Option (List (List Int)×Int×Unit)) (l:List (List Int)):Bool:=match o with
 | some x=>eqL (eqL ieq) x.1 l && ieq x.2.1 0
 | none=>false
theorem qt0 {o:Option (List (List Int)×Int×Unit)} {l:List (List Int)} (h:isA o l=true):o=some (l,0,()):=by
 match o,h with
 | some (a,b,()),h =>
  simp only [isA,wa4] at h;have e1:a=l:=eqLL h.1;have e2:=qdr.1 h.2;subst e1 e2;rfl
def isB (o:Option (List Int×Int×Unit)) (l:List Int):Bool:=match o with
 | some x=>eqL ieq x.1 l && ieq x.2.1 0
 | none=>false
theorem qwy {o:Option (List Int×Int×Unit)} {l:List Int} (h:isB o l=true):o=some (l,0,()):=by
 match o,h with
 | some (a,b,()),h =>
  simp only [isB,wa4] at h;have e1:a=l:=qjd (fun h=>qdr.1 h) h.1
  have e2:=qdr.1 h.2;subst e1 e2;rfl
end
end Go.Top
