/- Groups of mirrors: contracts. -/
import Derived.Test.YtieimmiiaabpgaaXT
set_option linter.unusedVariables false
set_option linter.unusedSimpArgs false
set_option maxRecDepth 100000
namespace Go.Top
noncomputable section
open Go Go.Ab Go.Proofs Go.Schur
def grP (g:Int×Int×Unit):Prop:=g.1=65∧1≤g.2.1∧g.2.1≤4
instance (g:Int×Int×Unit):Decidable (grP g):=by unfold grP;infer_instance
def tabF (g:Int×Int×Unit):TblD:=if g.2.1=1 then tab1 else if g.2.1=2 then tab2 else if g.2.1=3 then tab3 else tab4
def qpe:Con:=mkC 37 [.d GrT] [.ptr TblT] (fun (g:Int×Int×Unit)=>[grP g]) (fun (g:Int×Int×Unit)=>(tabF g,()))
def b16t (R:Rk) (x0:Int×Int×Unit) (x1:List (List Int)):Option (Option TblD×List Int×Bool×Unit):=R.gd (okO (h36t ((x0.1,x0.2.1,()):Int×Int×Unit))) (bif ieq (getO (h36t ((x0.1,x0.2.1,()):Int×Int×Unit))).1 (0:Int) then some ((none,([]:List Int),false,()):Option TblD×List Int×Bool×Unit) else R.gd (grP ((x0.1,x0.2.1,()):Int×Int×Unit)) (R.gd ((0:Nat)=(0:Nat)) (R.wh (fun (d2:Int×Int×List Int×Unit)=>bif ilt d2.1 (↑(List.length x1):Int) then R.gd ((0:Int)≤d2.1∧d2.1<(↑(List.length x1):Int)) (R.gd ((!ilt (30:Int) (↑(List.length (List.getD x1 (Int.toNat d2.1) ([]:List Int))):Int))=true→(!ilt (30:Int) (↑(List.length (List.getD x1 (Int.toNat d2.1) ([]:List Int))):Int))=true∧(!ilt (30:Int) (↑(List.length (List.getD x1 (Int.toNat d2.1) ([]:List Int))):Int))=true∧okO (h38t (List.getD x1 (Int.toNat d2.1) ([]:List Int)) d2.2.1)) (R.gd (ilt (30:Int) (↑(List.length (List.getD x1 (Int.toNat d2.1) ([]:List Int))):Int)=false→(!ilt (30:Int) (↑(List.length (List.getD x1 (Int.toNat d2.1) ([]:List Int))):Int))=true) (bif bif ilt (30:Int) (↑(List.length (List.getD x1 (Int.toNat d2.1) ([]:List Int))):Int) then true else (getO (h38t (List.getD x1 (Int.toNat d2.1) ([]:List Int)) d2.2.1)).1 then some (Lp.out ((none,([]:List Int),false,()):Option TblD×List Int×Bool×Unit)) else R.gd (okO (h30t (tabF ((x0.1,x0.2.1,()):Int×Int×Unit)) (0:Int) (List.getD x1 (Int.toNat d2.1) ([]:List Int)))) (R.gd (List.length d2.2.2.1≤List.length d2.2.2.1) (R.gd ((List.length d2.2.2.1+(1:Nat))*(8:Nat)≤(1099511627776:Nat)) (R.gd (List.length d2.2.2.1+(1:Nat)=List.length (List.take (List.length d2.2.2.1) d2.2.2.1++(getO (h30t (tabF ((x0.1,x0.2.1,()):Int×Int×Unit)) (0:Int) (List.getD x1 (Int.toNat d2.1) ([]:List Int)))).1::([]:List Int))) (some (Lp.go ((wr .i64 (d2.1+(1:Int)),d2.2.1,List.take (List.length d2.2.2.1) d2.2.2.1++(getO (h30t (tabF ((x0.1,x0.2.1,()):Int×Int×Unit)) (0:Int) (List.getD x1 (Int.toNat d2.1) ([]:List Int)))).1::([]:List Int),()):Int×Int×List Int×Unit))))))))) else R.gd ((0:Nat)+List.length d2.2.2.1≤List.length d2.2.2.1) (some (Lp.out ((some (tabF ((x0.1,x0.2.1,()):Int×Int×Unit)),List.take (List.length d2.2.2.1) (List.drop (0:Nat) d2.2.2.1),true,()):Option TblD×List Int×Bool×Unit)))) (((0:Int),(getO (h36t ((x0.1,x0.2.1,()):Int×Int×Unit))).1,([]:List Int),()):Int×Int×List Int×Unit))))
def g16t (x0:Int×Int×Unit) (x1:List (List Int)):Option (Option TblD×List Int×Bool×Unit):=b16t rkO x0 x1
def qz0:List LSh:=LSh.mk (((7,TV.ref (0) 1 0 0):Nat×TV)::((9,TV.slf (1) (1)):Nat×TV)::((20,TV.v (Ty.int .i64)):Nat×TV)::([]:List (Nat×TV))) (TB.cells (TV.v (Ty.int .i64)::([]:List TV))::TB.arr (Ty.int .i64) true::([]:List TB))::([]:List LSh)
def b55t (R:Rk) (x0 x1:Int) (x2:Option TblD):Option (Int×Unit):=R.gd (Option.isSome x2=true) (R.gd (okO (h41t (Option.getD x2 zTbl) x0)) (R.gd (Option.isSome x2=true) (R.gd (okO (h41t (Option.getD x2 zTbl) x1)) (R.gd (okO (h49t (getO (h41t (Option.getD x2 zTbl) x0)).1 (getO (h41t (Option.getD x2 zTbl) x1)).1)) (R.gd (Option.isSome x2=true) (R.gd ((0:Int)≤x0∧x0<(↑(List.length (Option.getD x2 zTbl).2.1):Int)) (R.gd (Option.isSome x2=true) (R.gd ((0:Int)≤x1∧x1<(↑(List.length (Option.getD x2 zTbl).2.1):Int)) (R.gd (okO (h35t (List.getD (Option.getD x2 zTbl).2.1 (Int.toNat x0) ([]:List Int)) (List.getD (Option.getD x2 zTbl).2.1 (Int.toNat x1) ([]:List Int)))) (R.gd (okO (h56t ((getO (h49t (getO (h41t (Option.getD x2 zTbl) x0)).1 (getO (h41t (Option.getD x2 zTbl) x1)).1)).1::(getO (h35t (List.getD (Option.getD x2 zTbl).2.1 (Int.toNat x0) ([]:List Int)) (List.getD (Option.getD x2 zTbl).2.1 (Int.toNat x1) ([]:List Int)))).1::([]:List Int)))) (some (((getO (h56t ((getO (h49t (getO (h41t (Option.getD x2 zTbl) x0)).1 (getO (h41t (Option.getD x2 zTbl) x1)).1)).1::(getO (h35t (List.getD (Option.getD x2 zTbl).2.1 (Int.toNat x0) ([]:List Int)) (List.getD (Option.getD x2 zTbl).2.1 (Int.toNat x1) ([]:List Int)))).1::([]:List Int)))).1,()):Int×Unit))))))))))))
def g55t (x0 x1:Int) (x2:Option TblD):Option (Int×Unit):=b55t rkO x0 x1 x2
def q08:List LSh:=([]:List LSh)
theorem gdRt {X:Type} {n:Nat} {p:Prop} [Decidable p] {a:Option X} (h:p):(rkF n).gd p a=a:=if_pos h
theorem q3y {S X:Type} {n:Nat} {st:S→Option (Lp S X)} {s:S}:(rkF n).wh st s=qbz st n s:=rfl
theorem qcm {S X:Type} {step:S→Option (Lp S X)} {s s':S} {n m k:Nat} (hk:k=n+m) (h:qeo step n s=some s'):qbz step k s=qbz step m s':=by
 subst hk;exact qlp h
theorem q8c (s:St37) (h:isS (some s) (st37 tab4 0 1)=true):(rkF 200).wh (qkj (rkF 200)) s=qbz qdj 200 (st37 tab4 0 1) :=
 (q3y (st:=qdj)).trans (congrArg (qbz qdj 200) (Option.some.inj (qf7 h)))
theorem q4y:h37t (65,4,())=some (tab4,()):=by
 unfold h37t b37t;refine (gdRt (by decide +kernel)).trans ?_
 refine (gdRt (by decide +kernel)).trans ?_
 refine (gdRt (by decide +kernel)).trans ?_
 refine (gdRt (by decide +kernel)).trans ?_
 refine (gdRt (by decide +kernel)).trans ?_
 refine (q8c _ (by decide +kernel)).trans ?_
 refine (qcm (k:=200) (n:=10) (m:=190) (by decide) t4_0).trans ?_
 refine (qcm (k:=190) (n:=10) (m:=180) (by decide) t4_1).trans ?_
 refine (qcm (k:=180) (n:=10) (m:=170) (by decide) t4_2).trans ?_
 refine (qcm (k:=170) (n:=10) (m:=160) (by decide) t4_3).trans ?_
 refine (qcm (k:=160) (n:=10) (m:=150) (by decide) t4_4).trans ?_
 refine (qcm (k:=150) (n:=10) (m:=140) (by decide) t4_5).trans ?_
 refine (qcm (k:=140) (n:=10) (m:=130) (by decide) t4_6).trans ?_
 refine (qcm (k:=130) (n:=10) (m:=120) (by decide) t4_7).trans ?_
 refine (qcm (k:=120) (n:=10) (m:=110) (by decide) t4_8).trans ?_
 refine (qcm (k:=110) (n:=10) (m:=100) (by decide) t4_9).trans ?_
 refine (qcm (k:=100) (n:=10) (m:=90) (by decide) zc5).trans ?_
 refine (qcm (k:=90) (n:=10) (m:=80) (by decide) zct).trans ?_
 exact qwu (by decide +kernel)
theorem q9p:qpe.goal Try.prog (spOf [qlk,qll,qp7,qoq]) qyp [1023,1018,4019] lm30:=by
 have e:(∀ (g:Int×Int×Unit),grP g→g37t g=some (tabF g,()))=qpe.goal Try.prog (spOf [qlk,qll,qp7,qoq]) qyp [1023,1018,4019] lm30:=by kernel_rfl
 rw [← e];rintro ⟨a,n,u⟩ ⟨h1,h2,h3⟩;cases u;simp only at h1 h2 h3;subst h1;have:n=1∨n=2∨n=3∨n=4:=by omega
 rcases this with rfl | rfl | rfl | rfl
 ·exact qra _ _ q9j
 ·exact qra _ _ q8l
 ·exact qra _ _ q56
 ·exact qra _ _ q4y
theorem zcs:qpe.Ok Try.prog:=Con.of_goal mixed (okC zag (okC zbt (okC zcy (okC zc4 okN)))) qpe q9p
def h16t (x0:Int×Int×Unit) (x1:List (List Int)):Option (Option TblD×List Int×Bool×Unit):=b16t (rkF 60) x0 x1
theorem q8p {n:Nat} (x0:Int×Int×Unit) (x1:List (List Int)):LeO (b16t (rkF n) x0 x1) (b16t rkO x0 x1):=by
 unfold b16t
 repeat' first | with_reducible exact qaf | with_reducible refine qaq ?_ | with_reducible refine qag ?_ ?_ | with_reducible refine qaj ?_ | with_reducible refine qan ?_ ?_ | (refine qar fun s=>?_;try dsimp only)
theorem q6c (x0:Int×Int×Unit) (x1:List (List Int)):LeO (h16t x0 x1) (g16t x0 x1):=q8p x0 x1
def qfj:Con:=mkC 16 [.d GrT,.d LLI] [.optr TblT,LI,.bool] (fun (x0:Int×Int×Unit) (x1:List (List Int))=>[okO (h16t x0 x1)]) (fun (x0:Int×Int×Unit) (x1:List (List Int))=>@getO ((Option TblD×List Int×Bool×Unit)) _ (h16t x0 x1))
theorem q5a:qfj.goal Try.prog (spOf [qlk,qpe,qov,qlg]) qz0 [] lm30:=by
 have e:(∀ (x0:Int×Int×Unit) (x1:List (List Int)),okO (h16t x0 x1)→g16t x0 x1=some (getO (h16t x0 x1)))=qfj.goal Try.prog (spOf [qlk,qpe,qov,qlg]) qz0 [] lm30:=by kernel_rfl
 rw [← e];intro x0 x1 h;exact qa1 (q6c x0 x1) h
theorem q15:qfj.Ok Try.prog:=Con.of_goal mixed (okC zag (okC zcs (okC zbw (okC zav okN)))) qfj q5a
def h55t (x0 x1:Int) (x2:Option TblD):Option (Int×Unit):=b55t (rkF 60) x0 x1 x2
theorem q62 {n:Nat} (x0 x1:Int) (x2:Option TblD):LeO (b55t (rkF n) x0 x1 x2) (b55t rkO x0 x1 x2):=by
 unfold b55t
 repeat' first | with_reducible exact qaf | with_reducible refine qaq ?_ | with_reducible refine qag ?_ ?_ | with_reducible refine qaj ?_ | with_reducible refine qan ?_ ?_ | (refine qar fun s=>?_;try dsimp only)
theorem q7x (x0 x1:Int) (x2:Option TblD):LeO (h55t x0 x1 x2) (g55t x0 x1 x2):=q62 x0 x1 x2
def qgs:Con:=mkC 55 [.d I64,.d I64,.d (.ptr (.optr TblT))] [I64] (fun (x0 x1:Int) (x2:Option TblD)=>[okO (h55t x0 x1 x2)]) (fun (x0 x1:Int) (x2:Option TblD)=>@getO ((Int×Unit)) _ (h55t x0 x1 x2))
theorem q5b:qgs.goal Try.prog (spOf [qdq,qlr,qdy,qqr]) q08 [] lm30:=by
 have e:(∀ (x0 x1:Int) (x2:Option TblD),okO (h55t x0 x1 x2)→g55t x0 x1 x2=some (getO (h55t x0 x1 x2)))=qgs.goal Try.prog (spOf [qdq,qlr,qdy,qqr]) q08 [] lm30:=by kernel_rfl
 rw [← e];intro x0 x1 x2 h;exact qa1 (q7x x0 x1 x2) h
theorem q3q:qgs.Ok Try.prog:=Con.of_goal mixed (okC qt1 (okC zbl (okC qu6 (okC zcg okN)))) qgs q5b
def b12t (R:Rk) (x0:Int×Int×Unit) (x1:List Int):Option (List Int×Int×Unit):=R.gd (okO (h16t ((x0.1,x0.2.1,()):Int×Int×Unit) (x1::([]:List (List Int))))) (bif !(getO (h16t ((x0.1,x0.2.1,()):Int×Int×Unit) (x1::([]:List (List Int))))).2.2.1 then some ((([]:List Int),(2:Int),()):List Int×Int×Unit) else R.gd (List.length x1≤(100000:Nat)) (R.gd (List.length x1=List.length x1) (R.gd (okO (h28t x1)) (R.gd (Option.isSome (getO (h16t ((x0.1,x0.2.1,()):Int×Int×Unit) (x1::([]:List (List Int))))).1=true) (R.gd ((0:Nat)+List.length x1≤List.length (getO (h28t x1)).1) (R.gd (okO (h30t (Option.getD (getO (h16t ((x0.1,x0.2.1,()):Int×Int×Unit) (x1::([]:List (List Int))))).1 zTbl) (0:Int) (List.take (List.length x1) (List.drop (0:Nat) (getO (h28t x1)).1)))) (R.gd (Option.isSome (getO (h16t ((x0.1,x0.2.1,()):Int×Int×Unit) (x1::([]:List (List Int))))).1=true) (R.gd (okO (h29t (Option.getD (getO (h16t ((x0.1,x0.2.1,()):Int×Int×Unit) (x1::([]:List (List Int))))).1 zTbl) (getO (h30t (Option.getD (getO (h16t ((x0.1,x0.2.1,()):Int×Int×Unit) (x1::([]:List (List Int))))).1 zTbl) (0:Int) (List.take (List.length x1) (List.drop (0:Nat) (getO (h28t x1)).1)))).1)) (some (((getO (h29t (Option.getD (getO (h16t ((x0.1,x0.2.1,()):Int×Int×Unit) (x1::([]:List (List Int))))).1 zTbl) (getO (h30t (Option.getD (getO (h16t ((x0.1,x0.2.1,()):Int×Int×Unit) (x1::([]:List (List Int))))).1 zTbl) (0:Int) (List.take (List.length x1) (List.drop (0:Nat) (getO (h28t x1)).1)))).1)).1,(0:Int),()):List Int×Int×Unit))))))))))
def g12t (x0:Int×Int×Unit) (x1:List Int):Option (List Int×Int×Unit):=b12t rkO x0 x1
def q06:List LSh:=([]:List LSh)
def b14t (R:Rk) (x0:Int×Int×Unit):Option (List Int×Int×Unit):=R.gd (okO (h16t ((x0.1,x0.2.1,()):Int×Int×Unit) ([]:List (List Int)))) (bif !(getO (h16t ((x0.1,x0.2.1,()):Int×Int×Unit) ([]:List (List Int)))).2.2.1 then some ((([]:List Int),(2:Int),()):List Int×Int×Unit) else R.gd (Option.isSome (getO (h16t ((x0.1,x0.2.1,()):Int×Int×Unit) ([]:List (List Int)))).1=true) (R.gd (okO (h31t (Option.getD (getO (h16t ((x0.1,x0.2.1,()):Int×Int×Unit) ([]:List (List Int)))).1 zTbl))) (R.gd (Option.isSome (getO (h16t ((x0.1,x0.2.1,()):Int×Int×Unit) ([]:List (List Int)))).1=true) (R.gd (okO (h29t (Option.getD (getO (h16t ((x0.1,x0.2.1,()):Int×Int×Unit) ([]:List (List Int)))).1 zTbl) (getO (h31t (Option.getD (getO (h16t ((x0.1,x0.2.1,()):Int×Int×Unit) ([]:List (List Int)))).1 zTbl))).1)) (some (((getO (h29t (Option.getD (getO (h16t ((x0.1,x0.2.1,()):Int×Int×Unit) ([]:List (List Int)))).1 zTbl) (getO (h31t (Option.getD (getO (h16t ((x0.1,x0.2.1,()):Int×Int×Unit) ([]:List (List Int)))).1 zTbl))).1)).1,(0:Int),()):List Int×Int×Unit))))))
def g14t (x0:Int×Int×Unit):Option (List Int×Int×Unit):=b14t rkO x0
def qy0:List LSh:=([]:List LSh)
def b27t (R:Rk) (x0:Int×Int×Unit) (x1:List Int):Option (List Int×Int×Unit):=R.gd (okO (h16t ((x0.1,x0.2.1,()):Int×Int×Unit) (x1::([]:List (List Int))))) (bif !(getO (h16t ((x0.1,x0.2.1,()):Int×Int×Unit) (x1::([]:List (List Int))))).2.2.1 then some ((([]:List Int),(2:Int),()):List Int×Int×Unit) else R.gd ((0:Int)≤(0:Int)∧(0:Int)<(↑(List.length (getO (h16t ((x0.1,x0.2.1,()):Int×Int×Unit) (x1::([]:List (List Int))))).2.1):Int)) (R.gd (Option.isSome (getO (h16t ((x0.1,x0.2.1,()):Int×Int×Unit) (x1::([]:List (List Int))))).1=true) (R.gd (okO (h29t (Option.getD (getO (h16t ((x0.1,x0.2.1,()):Int×Int×Unit) (x1::([]:List (List Int))))).1 zTbl) (List.getD (getO (h16t ((x0.1,x0.2.1,()):Int×Int×Unit) (x1::([]:List (List Int))))).2.1 (0:Nat) (0:Int)))) (some (((getO (h29t (Option.getD (getO (h16t ((x0.1,x0.2.1,()):Int×Int×Unit) (x1::([]:List (List Int))))).1 zTbl) (List.getD (getO (h16t ((x0.1,x0.2.1,()):Int×Int×Unit) (x1::([]:List (List Int))))).2.1 (0:Nat) (0:Int)))).1,(0:Int),()):List Int×Int×Unit)))))
def g27t (x0:Int×Int×Unit) (x1:List Int):Option (List Int×Int×Unit):=b27t rkO x0 x1
def q1p:List LSh:=([]:List LSh)
def b13t (R:Rk) (x0 x1:List Int):Option (Bool×Unit):=bif !ieq (↑(List.length x0):Int) (↑(List.length x1):Int) then some ((false,()):Bool×Unit) else R.wh (fun (d2:Int×Unit)=>bif ilt d2.1 (↑(List.length x0):Int) then R.gd ((0:Int)≤d2.1∧d2.1<(↑(List.length x0):Int)) (R.gd ((0:Int)≤d2.1∧d2.1<(↑(List.length x1):Int)) (bif !ieq (List.getD x0 (Int.toNat d2.1) (0:Int)) (List.getD x1 (Int.toNat d2.1) (0:Int)) then some (Lp.out ((false,()):Bool×Unit)) else some (Lp.go ((wr .i64 (d2.1+(1:Int)),()):Int×Unit)))) else some (Lp.out ((true,()):Bool×Unit))) (((0:Int),()):Int×Unit)
def g13t (x0 x1:List Int):Option (Bool×Unit):=b13t rkO x0 x1
def qyi:List LSh:=LSh.mk (((13,TV.v (Ty.int .i64)):Nat×TV)::([]:List (Nat×TV))) ([]:List TB)::([]:List LSh)
def h12t (x0:Int×Int×Unit) (x1:List Int):Option (List Int×Int×Unit):=b12t (rkF 200) x0 x1
theorem q8v {n:Nat} (x0:Int×Int×Unit) (x1:List Int):LeO (b12t (rkF n) x0 x1) (b12t rkO x0 x1):=by
 unfold b12t
 repeat' first | with_reducible exact qaf | with_reducible refine qaq ?_ | with_reducible refine qag ?_ ?_ | with_reducible refine qaj ?_ | with_reducible refine qan ?_ ?_ | (refine qar fun s=>?_;try dsimp only)
theorem q80 (x0:Int×Int×Unit) (x1:List Int):LeO (h12t x0 x1) (g12t x0 x1):=q8v x0 x1
def qpz:Con:=mkC 12 [.d GrT,.d LI] [LI,I64] (fun (x0:Int×Int×Unit) (x1:List Int)=>[okO (h12t x0 x1)]) (fun (x0:Int×Int×Unit) (x1:List Int)=>@getO ((List Int×Int×Unit)) _ (h12t x0 x1))
theorem q96:qpz.goal Try.prog (spS [qpw,qqq] [qfj,qgx,qlg]) q06 [] lm30:=by
 have e:(∀ (x0:Int×Int×Unit) (x1:List Int),okO (h12t x0 x1)→g12t x0 x1=some (getO (h12t x0 x1)))=qpz.goal Try.prog (spS [qpw,qqq] [qfj,qgx,qlg]) q06 [] lm30:=by kernel_rfl
 rw [← e];intro x0 x1 h;exact qa1 (q80 x0 x1) h
theorem zcn:qpz.Ok Try.prog:=Con.of_goalS mixed (okC q15 (okC q27 (okC zav okN))) (okS zc7 (okS zc6 okS0)) qpz q96
def h14t (x0:Int×Int×Unit):Option (List Int×Int×Unit):=b14t (rkF 200) x0
theorem q6j {n:Nat} (x0:Int×Int×Unit):LeO (b14t (rkF n) x0) (b14t rkO x0):=by
 unfold b14t
 repeat' first | with_reducible exact qaf | with_reducible refine qaq ?_ | with_reducible refine qag ?_ ?_ | with_reducible refine qaj ?_ | with_reducible refine qan ?_ ?_ | (refine qar fun s=>?_;try dsimp only)
theorem q73 (x0:Int×Int×Unit):LeO (h14t x0) (g14t x0):=q6j x0
def qqh:Con:=mkC 14 [.d GrT] [LI,I64] (fun (x0:Int×Int×Unit)=>[okO (h14t x0)]) (fun (x0:Int×Int×Unit)=>@getO ((List Int×Int×Unit)) _ (h14t x0))
theorem q65:qqh.goal Try.prog (spOf [qfj,qgx,qpv]) qy0 [] lm30:=by
 have e:(∀ (x0:Int×Int×Unit),okO (h14t x0)→g14t x0=some (getO (h14t x0)))=qqh.goal Try.prog (spOf [qfj,qgx,qpv]) qy0 [] lm30:=by kernel_rfl
 rw [← e];intro x0 h;exact qa1 (q73 x0) h
theorem zc3:qqh.Ok Try.prog:=Con.of_goal mixed (okC q15 (okC q27 (okC zbx okN))) qqh q65
def h27t (x0:Int×Int×Unit) (x1:List Int):Option (List Int×Int×Unit):=b27t (rkF 200) x0 x1
theorem q7p {n:Nat} (x0:Int×Int×Unit) (x1:List Int):LeO (b27t (rkF n) x0 x1) (b27t rkO x0 x1):=by
 unfold b27t
 repeat' first | with_reducible exact qaf | with_reducible refine qaq ?_ | with_reducible refine qag ?_ ?_ | with_reducible refine qaj ?_ | with_reducible refine qan ?_ ?_ | (refine qar fun s=>?_;try dsimp only)
theorem q92 (x0:Int×Int×Unit) (x1:List Int):LeO (h27t x0 x1) (g27t x0 x1):=q7p x0 x1
def qqd:Con:=mkC 27 [.d GrT,.d LI] [LI,I64] (fun (x0:Int×Int×Unit) (x1:List Int)=>[okO (h27t x0 x1)]) (fun (x0:Int×Int×Unit) (x1:List Int)=>@getO ((List Int×Int×Unit)) _ (h27t x0 x1))
theorem q8h:qqd.goal Try.prog (spOf [qfj,qgx]) q1p [] lm30:=by
 have e:(∀ (x0:Int×Int×Unit) (x1:List Int),okO (h27t x0 x1)→g27t x0 x1=some (getO (h27t x0 x1)))=qqd.goal Try.prog (spOf [qfj,qgx]) q1p [] lm30:=by kernel_rfl
 rw [← e];intro x0 x1 h;exact qa1 (q92 x0 x1) h
theorem zb7:qqd.Ok Try.prog:=Con.of_goal mixed (okC q15 (okC q27 okN)) qqd q8h
def h13t (x0 x1:List Int):Option (Bool×Unit):=b13t (rkF 200) x0 x1
theorem q7f {n:Nat} (x0 x1:List Int):LeO (b13t (rkF n) x0 x1) (b13t rkO x0 x1):=by
 unfold b13t
 repeat' first | with_reducible exact qaf | with_reducible refine qaq ?_ | with_reducible refine qag ?_ ?_ | with_reducible refine qaj ?_ | with_reducible refine qan ?_ ?_ | (refine qar fun s=>?_;try dsimp only)
theorem q8x (x0 x1:List Int):LeO (h13t x0 x1) (g13t x0 x1):=q7f x0 x1
def qlo:Con:=mkC 13 [.d LI,.d LI] [.bool] (fun (x0 x1:List Int)=>[okO (h13t x0 x1)]) (fun (x0 x1:List Int)=>@getO ((Bool×Unit)) _ (h13t x0 x1))
theorem q7j:qlo.goal Try.prog (spOf []) qyi [] lm30:=by
 have e:(∀ (x0 x1:List Int),okO (h13t x0 x1)→g13t x0 x1=some (getO (h13t x0 x1)))=qlo.goal Try.prog (spOf []) qyi [] lm30:=by kernel_rfl
 rw [← e];intro x0 x1 h;exact qa1 (q8x x0 x1) h
theorem zbd:qlo.Ok Try.prog:=Con.of_goal mixed okN qlo q7j
end
end Go.Top
