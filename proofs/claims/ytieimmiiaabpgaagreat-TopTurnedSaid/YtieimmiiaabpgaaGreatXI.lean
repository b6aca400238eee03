/- Groups of mirrors: the tables of kind I as constants. -/
import Derived.Test.YtieimmiiaabpgaaGreatXJ
import Derived.Test.YtieimmiiaabpgaaGreatXE
set_option linter.unusedVariables false
set_option linter.unusedSimpArgs false
set_option maxRecDepth 100000
namespace Go.Top
open Go Go.Ab Go.Proofs Go.Schur
def ze2:TblD:=((73,3,()),[[],[0],[1],[0,1],[1,0],[0,1,0]],[[1,2],[0,3],[4,0],[5,1],[2,5],[3,4]],[((1,(2,(3,(4,(5,(6,(7,(8,(9,(10,(11,(12,(13,(14,(15,(16,(17,(18,(19,(20,(21,(22,(23,(24,())))))))))))))))))))))))),0),((1,(6,(5,(4,(3,(2,(7,(8,(9,(10,(11,(12,(13,(14,(15,(16,(17,(18,(19,(20,(21,(22,(23,(24,())))))))))))))))))))))))),1),((3,(2,(1,(6,(5,(4,(7,(8,(9,(10,(11,(12,(13,(14,(15,(16,(17,(18,(19,(20,(21,(22,(23,(24,())))))))))))))))))))))))),2),((5,(6,(1,(2,(3,(4,(7,(8,(9,(10,(11,(12,(13,(14,(15,(16,(17,(18,(19,(20,(21,(22,(23,(24,())))))))))))))))))))))))),3),((3,(4,(5,(6,(1,(2,(7,(8,(9,(10,(11,(12,(13,(14,(15,(16,(17,(18,(19,(20,(21,(22,(23,(24,())))))))))))))))))))))))),4),((5,(4,(3,(2,(1,(6,(7,(8,(9,(10,(11,(12,(13,(14,(15,(16,(17,(18,(19,(20,(21,(22,(23,(24,())))))))))))))))))))))))),5)],())
def zdl:TblD:=((73,4,()),[[],[0],[1],[0,1],[1,0],[0,1,0],[1,0,1],[0,1,0,1]],[[1,2],[0,3],[4,0],[5,1],[2,6],[3,7],[7,4],[6,5]],[((1,(2,(3,(4,(5,(6,(7,(8,(9,(10,(11,(12,(13,(14,(15,(16,(17,(18,(19,(20,(21,(22,(23,(24,())))))))))))))))))))))))),0),((1,(8,(7,(6,(5,(4,(3,(2,(9,(10,(11,(12,(13,(14,(15,(16,(17,(18,(19,(20,(21,(22,(23,(24,())))))))))))))))))))))))),1),((3,(2,(1,(8,(7,(6,(5,(4,(9,(10,(11,(12,(13,(14,(15,(16,(17,(18,(19,(20,(21,(22,(23,(24,())))))))))))))))))))))))),2),((7,(8,(1,(2,(3,(4,(5,(6,(9,(10,(11,(12,(13,(14,(15,(16,(17,(18,(19,(20,(21,(22,(23,(24,())))))))))))))))))))))))),3),((3,(4,(5,(6,(7,(8,(1,(2,(9,(10,(11,(12,(13,(14,(15,(16,(17,(18,(19,(20,(21,(22,(23,(24,())))))))))))))))))))))))),4),((7,(6,(5,(4,(3,(2,(1,(8,(9,(10,(11,(12,(13,(14,(15,(16,(17,(18,(19,(20,(21,(22,(23,(24,())))))))))))))))))))))))),5),((5,(4,(3,(2,(1,(8,(7,(6,(9,(10,(11,(12,(13,(14,(15,(16,(17,(18,(19,(20,(21,(22,(23,(24,())))))))))))))))))))))))),6),((5,(6,(7,(8,(1,(2,(3,(4,(9,(10,(11,(12,(13,(14,(15,(16,(17,(18,(19,(20,(21,(22,(23,(24,())))))))))))))))))))))))),7)],())
def ze6:TblD:=((73,5,()),[[],[0],[1],[0,1],[1,0],[0,1,0],[1,0,1],[0,1,0,1],[1,0,1,0],[0,1,0,1,0]],[[1,2],[0,3],[4,0],[5,1],[2,6],[3,7],[8,4],[9,5],[6,9],[7,8]],[((1,(2,(3,(4,(5,(6,(7,(8,(9,(10,(11,(12,(13,(14,(15,(16,(17,(18,(19,(20,(21,(22,(23,(24,())))))))))))))))))))))))),0),((1,(10,(9,(8,(7,(6,(5,(4,(3,(2,(11,(12,(13,(14,(15,(16,(17,(18,(19,(20,(21,(22,(23,(24,())))))))))))))))))))))))),1),((3,(2,(1,(10,(9,(8,(7,(6,(5,(4,(11,(12,(13,(14,(15,(16,(17,(18,(19,(20,(21,(22,(23,(24,())))))))))))))))))))))))),2),((9,(10,(1,(2,(3,(4,(5,(6,(7,(8,(11,(12,(13,(14,(15,(16,(17,(18,(19,(20,(21,(22,(23,(24,())))))))))))))))))))))))),3),((3,(4,(5,(6,(7,(8,(9,(10,(1,(2,(11,(12,(13,(14,(15,(16,(17,(18,(19,(20,(21,(22,(23,(24,())))))))))))))))))))))))),4),((9,(8,(7,(6,(5,(4,(3,(2,(1,(10,(11,(12,(13,(14,(15,(16,(17,(18,(19,(20,(21,(22,(23,(24,())))))))))))))))))))))))),5),((5,(4,(3,(2,(1,(10,(9,(8,(7,(6,(11,(12,(13,(14,(15,(16,(17,(18,(19,(20,(21,(22,(23,(24,())))))))))))))))))))))))),6),((7,(8,(9,(10,(1,(2,(3,(4,(5,(6,(11,(12,(13,(14,(15,(16,(17,(18,(19,(20,(21,(22,(23,(24,())))))))))))))))))))))))),7),((5,(6,(7,(8,(9,(10,(1,(2,(3,(4,(11,(12,(13,(14,(15,(16,(17,(18,(19,(20,(21,(22,(23,(24,())))))))))))))))))))))))),8),((7,(6,(5,(4,(3,(2,(1,(10,(9,(8,(11,(12,(13,(14,(15,(16,(17,(18,(19,(20,(21,(22,(23,(24,())))))))))))))))))))))))),9)],())
def isT (o:Option (TblD×Unit)) (t:TblD):Bool:=match o with
 | some x=>deq GrT x.1.1 t.1 && (eqL (eqL ieq) x.1.2.1 t.2.1 && (eqL (eqL ieq) x.1.2.2.1 t.2.2.1 && eqL (fun p q=>deq EL p.1 q.1 && ieq p.2 q.2) x.1.2.2.2.1 t.2.2.2.1))
 | none=>false
theorem q1g {o:Option (TblD×Unit)} {t:TblD} (h:isT o t=true):o=some (t,()):=by
 match o,t,h with
 | some ((g,w,n,m,()),()),(g',w',n',m',()),h =>
  simp only [isT,wa3] at h;obtain ⟨h1,h2,h3,h4⟩:=h;have e1:g=g':=(qlb (t:=GrT) rfl).1 h1;have e2:w=w':=eqLL h2;have e3:n=n':=eqLL h3;have e5:m=m':=qlk (fun {p q} h=>by
   simp only [wa3] at h;exact Prod.ext ((qlb (t:=EL) rfl).1 h.1) (qfo.1 h.2)) h4
  subst e1 e2 e3 e5;rfl
theorem q5u:h37t (73,3,())=some (ze2,()):=q1g (by decide +kernel)
theorem q4m:h37t (73,4,())=some (zdl,()):=q1g (by decide +kernel)
theorem q5z:h37t (73,5,())=some (ze6,()):=q1g (by decide +kernel)
def grP (g:Int×Int×Unit):Prop:=g.1=73∧3≤g.2.1∧g.2.1≤5
instance (g:Int×Int×Unit):Decidable (grP g):=by unfold grP;infer_instance
def tabF (g:Int×Int×Unit):TblD:=if g.2.1=3 then ze2 else if g.2.1=4 then zdl else ze6
noncomputable def qqa:Con:=mkC 48 [.d GrT] [.ptr TblT] (fun (g:Int×Int×Unit)=>[grP g]) (fun (g:Int×Int×Unit)=>(tabF g,()))
theorem zcv:qqa.goal Tryz.prog (spOf [qli,qlv,qqe,qo9]) q15 [1023,1018,4019] lm30:=by
 have e:(∀ (g:Int×Int×Unit),grP g→g37t g=some (tabF g,()))=qqa.goal Tryz.prog (spOf [qli,qlv,qqe,qo9]) q15 [1023,1018,4019] lm30:=by kernel_rfl
 rw [← e];rintro ⟨a,n,u⟩ ⟨h1,h2,h3⟩;cases u;simp only at h1 h2 h3;subst h1;have:n=3∨n=4∨n=5:=by omega
 rcases this with rfl | rfl | rfl
 ·exact qu3 _ _ q5u
 ·exact qu3 _ _ q4m
 ·exact qu3 _ _ q5z
theorem zfy:qqa.Ok Tryz.prog:=Con.of_goal mixed (okC zdy (okC zes (okC zgt (okC zgh okN)))) qqa zcv
def b16t (R:Rk) (x0:Int×Int×Unit) (x1:List (List Int)):Option (Option TblD×List Int×Bool×Unit):=R.gd (okO (h36t ((x0.1,x0.2.1,()):Int×Int×Unit))) (bif ieq (getO (h36t ((x0.1,x0.2.1,()):Int×Int×Unit))).1 (0:Int) then some ((none,([]:List Int),false,()):Option TblD×List Int×Bool×Unit) else R.gd (grP ((x0.1,x0.2.1,()):Int×Int×Unit)) (R.gd ((0:Nat)=(0:Nat)) (R.wh (fun (d2:Int×Int×List Int×Unit)=>bif ilt d2.1 (↑(List.length x1):Int) then R.gd ((0:Int)≤d2.1∧d2.1<(↑(List.length x1):Int)) (R.gd ((!ilt (30:Int) (↑(List.length (List.getD x1 (Int.toNat d2.1) ([]:List Int))):Int))=true→(!ilt (30:Int) (↑(List.length (List.getD x1 (Int.toNat d2.1) ([]:List Int))):Int))=true∧(!ilt (30:Int) (↑(List.length (List.getD x1 (Int.toNat d2.1) ([]:List Int))):Int))=true∧okO (h38t (List.getD x1 (Int.toNat d2.1) ([]:List Int)) d2.2.1)) (R.gd (ilt (30:Int) (↑(List.length (List.getD x1 (Int.toNat d2.1) ([]:List Int))):Int)=false→(!ilt (30:Int) (↑(List.length (List.getD x1 (Int.toNat d2.1) ([]:List Int))):Int))=true) (bif bif ilt (30:Int) (↑(List.length (List.getD x1 (Int.toNat d2.1) ([]:List Int))):Int) then true else (getO (h38t (List.getD x1 (Int.toNat d2.1) ([]:List Int)) d2.2.1)).1 then some (Lp.out ((none,([]:List Int),false,()):Option TblD×List Int×Bool×Unit)) else R.gd (okO (h30t (tabF ((x0.1,x0.2.1,()):Int×Int×Unit)) (0:Int) (List.getD x1 (Int.toNat d2.1) ([]:List Int)))) (R.gd (List.length d2.2.2.1≤List.length d2.2.2.1) (R.gd ((List.length d2.2.2.1+(1:Nat))*(8:Nat)≤(1099511627776:Nat)) (R.gd (List.length d2.2.2.1+(1:Nat)=List.length (List.take (List.length d2.2.2.1) d2.2.2.1++(getO (h30t (tabF ((x0.1,x0.2.1,()):Int×Int×Unit)) (0:Int) (List.getD x1 (Int.toNat d2.1) ([]:List Int)))).1::([]:List Int))) (some (Lp.go ((wr .i64 (d2.1+(1:Int)),d2.2.1,List.take (List.length d2.2.2.1) d2.2.2.1++(getO (h30t (tabF ((x0.1,x0.2.1,()):Int×Int×Unit)) (0:Int) (List.getD x1 (Int.toNat d2.1) ([]:List Int)))).1::([]:List Int),()):Int×Int×List Int×Unit))))))))) else R.gd ((0:Nat)+List.length d2.2.2.1≤List.length d2.2.2.1) (some (Lp.out ((some (tabF ((x0.1,x0.2.1,()):Int×Int×Unit)),List.take (List.length d2.2.2.1) (List.drop (0:Nat) d2.2.2.1),true,()):Option TblD×List Int×Bool×Unit)))) (((0:Int),(getO (h36t ((x0.1,x0.2.1,()):Int×Int×Unit))).1,([]:List Int),()):Int×Int×List Int×Unit))))
noncomputable def g16t (x0:Int×Int×Unit) (x1:List (List Int)):Option (Option TblD×List Int×Bool×Unit):=b16t rkO x0 x1
noncomputable def q1t:List LSh:=LSh.mk (((7,TV.ref (0) 1 0 0):Nat×TV)::((9,TV.slf (1) (1)):Nat×TV)::((20,TV.v (Ty.int .i64)):Nat×TV)::([]:List (Nat×TV))) (TB.cells (TV.v (Ty.int .i64)::([]:List TV))::TB.arr (Ty.int .i64) true::([]:List TB))::([]:List LSh)
def b55t (R:Rk) (x0 x1:Int) (x2:Option TblD):Option (Int×Unit):=R.gd (Option.isSome x2=true) (R.gd (okO (h41t (Option.getD x2 zTbl) x0)) (R.gd (Option.isSome x2=true) (R.gd (okO (h41t (Option.getD x2 zTbl) x1)) (R.gd (okO (h49t (getO (h41t (Option.getD x2 zTbl) x0)).1 (getO (h41t (Option.getD x2 zTbl) x1)).1)) (R.gd (Option.isSome x2=true) (R.gd ((0:Int)≤x0∧x0<(↑(List.length (Option.getD x2 zTbl).2.1):Int)) (R.gd (Option.isSome x2=true) (R.gd ((0:Int)≤x1∧x1<(↑(List.length (Option.getD x2 zTbl).2.1):Int)) (R.gd (okO (h35t (List.getD (Option.getD x2 zTbl).2.1 (Int.toNat x0) ([]:List Int)) (List.getD (Option.getD x2 zTbl).2.1 (Int.toNat x1) ([]:List Int)))) (R.gd (okO (h56t ((getO (h49t (getO (h41t (Option.getD x2 zTbl) x0)).1 (getO (h41t (Option.getD x2 zTbl) x1)).1)).1::(getO (h35t (List.getD (Option.getD x2 zTbl).2.1 (Int.toNat x0) ([]:List Int)) (List.getD (Option.getD x2 zTbl).2.1 (Int.toNat x1) ([]:List Int)))).1::([]:List Int)))) (some (((getO (h56t ((getO (h49t (getO (h41t (Option.getD x2 zTbl) x0)).1 (getO (h41t (Option.getD x2 zTbl) x1)).1)).1::(getO (h35t (List.getD (Option.getD x2 zTbl).2.1 (Int.toNat x0) ([]:List Int)) (List.getD (Option.getD x2 zTbl).2.1 (Int.toNat x1) ([]:List Int)))).1::([]:List Int)))).1,()):Int×Unit))))))))))))
noncomputable def g55t (x0 x1:Int) (x2:Option TblD):Option (Int×Unit):=b55t rkO x0 x1 x2
noncomputable def q18:List LSh:=([]:List LSh)
def h16t (x0:Int×Int×Unit) (x1:List (List Int)):Option (Option TblD×List Int×Bool×Unit):=b16t (rkF 200) x0 x1
theorem zct {n:Nat} (x0:Int×Int×Unit) (x1:List (List Int)):LeO (b16t (rkF n) x0 x1) (b16t rkO x0 x1):=by
 unfold b16t
 repeat' first | with_reducible exact qae | with_reducible refine qam ?_ | with_reducible refine qad ?_ ?_ | with_reducible refine qai ?_ | with_reducible refine qao ?_ ?_ | (refine qan fun s=>?_;try dsimp only)
theorem zay (x0:Int×Int×Unit) (x1:List (List Int)):LeO (h16t x0 x1) (g16t x0 x1):=zct x0 x1
noncomputable def qls:Con:=mkC 24 [.d GrT,.d LLI] [.optr TblT,LI,.bool] (fun (x0:Int×Int×Unit) (x1:List (List Int))=>[okO (h16t x0 x1)]) (fun (x0:Int×Int×Unit) (x1:List (List Int))=>@getO ((Option TblD×List Int×Bool×Unit)) _ (h16t x0 x1))
theorem zab:qls.goal Tryz.prog (spOf [qli,qqa,qo7,qpo]) q1t [] lm30:=by
 have e:(∀ (x0:Int×Int×Unit) (x1:List (List Int)),okO (h16t x0 x1)→g16t x0 x1=some (getO (h16t x0 x1)))=qls.goal Tryz.prog (spOf [qli,qqa,qo7,qpo]) q1t [] lm30:=by kernel_rfl
 rw [← e];intro x0 x1 h;exact qaq (zay x0 x1) h
theorem zff:qls.Ok Tryz.prog:=Con.of_goal mixed (okC zdy (okC zfy (okC zft (okC zf4 okN)))) qls zab
def h55t (x0 x1:Int) (x2:Option TblD):Option (Int×Unit):=b55t (rkF 200) x0 x1 x2
theorem zbr {n:Nat} (x0 x1:Int) (x2:Option TblD):LeO (b55t (rkF n) x0 x1 x2) (b55t rkO x0 x1 x2):=by
 unfold b55t
 repeat' first | with_reducible exact qae | with_reducible refine qam ?_ | with_reducible refine qad ?_ ?_ | with_reducible refine qai ?_ | with_reducible refine qao ?_ ?_ | (refine qan fun s=>?_;try dsimp only)
theorem q7k (x0 x1:Int) (x2:Option TblD):LeO (h55t x0 x1 x2) (g55t x0 x1 x2):=zbr x0 x1 x2
noncomputable def qld:Con:=mkC 82 [.d I64,.d I64,.d (.ptr (.optr TblT))] [I64] (fun (x0 x1:Int) (x2:Option TblD)=>[okO (h55t x0 x1 x2)]) (fun (x0 x1:Int) (x2:Option TblD)=>@getO ((Int×Unit)) _ (h55t x0 x1 x2))
theorem q9z:qld.goal Tryz.prog (spOf [qlq,qlm,qp7,qp0]) q18 [] lm30:=by
 have e:(∀ (x0 x1:Int) (x2:Option TblD),okO (h55t x0 x1 x2)→g55t x0 x1 x2=some (getO (h55t x0 x1 x2)))=qld.goal Tryz.prog (spOf [qlq,qlm,qp7,qp0]) q18 [] lm30:=by kernel_rfl
 rw [← e];intro x0 x1 x2 h;exact qaq (q7k x0 x1 x2) h
theorem zd5:qld.Ok Tryz.prog:=Con.of_goal mixed (okC zdz (okC zeo (okC zf1 (okC zf0 okN)))) qld q9z
end Go.Top
