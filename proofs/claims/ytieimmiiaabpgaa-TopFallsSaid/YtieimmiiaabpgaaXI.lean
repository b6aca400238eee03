/- Groups of mirrors: contracts. -/
import Derived.Test.YtieimmiiaabpgaaXT
set_option linter.unusedVariables false
set_option linter.unusedSimpArgs false
set_option maxRecDepth 100000
namespace Go.Top
noncomputable section
open Go Go.Ab Go.Proofs Go.Schur
def grP (g:Int×Int×Unit):Prop:=g.1=65∧1≤g.2.1∧g.2.1≤4
instance (g:Int×Int×Unit):Decidable (grP g):=by unfold grP;infer_instance
def tabF (g:Int×Int×Unit):TblD:=if g.2.1=1 then tab1 else if g.2.1=2 then tab2 else if g.2.1=3 then tab3 else tab4
def qnh:Con:=mkC 37 [.d GrT] [.ptr TblT] (fun (g:Int×Int×Unit)=>[grP g]) (fun (g:Int×Int×Unit)=>(tabF g,()))
def b16t (R:Rk) (x0:Int×Int×Unit) (x1:List (List Int)):Option (Option TblD×List Int×Bool×Unit):=R.gd (okO (h36t ((x0.1,x0.2.1,()):Int×Int×Unit))) (bif ieq (getO (h36t ((x0.1,x0.2.1,()):Int×Int×Unit))).1 (0:Int) then some ((none,([]:List Int),false,()):Option TblD×List Int×Bool×Unit) else R.gd (grP ((x0.1,x0.2.1,()):Int×Int×Unit)) (R.gd ((0:Nat)=(0:Nat)) (R.wh (fun (d2:Int×Int×List Int×Unit)=>bif ilt d2.1 (↑(List.length x1):Int) then R.gd ((0:Int)≤d2.1∧d2.1<(↑(List.length x1):Int)) (R.gd ((!ilt (30:Int) (↑(List.length (List.getD x1 (Int.toNat d2.1) ([]:List Int))):Int))=true→(!ilt (30:Int) (↑(List.length (List.getD x1 (Int.toNat d2.1) ([]:List Int))):Int))=true∧(!ilt (30:Int) (↑(List.length (List.getD x1 (Int.toNat d2.1) ([]:List Int))):Int))=true∧okO (h38t (List.getD x1 (Int.toNat d2.1) ([]:List Int)) d2.2.1)) (R.gd (ilt (30:Int) (↑(List.length (List.getD x1 (Int.toNat d2.1) ([]:List Int))):Int)=false→(!ilt (30:Int) (↑(List.length (List.getD x1 (Int.toNat d2.1) ([]:List Int))):Int))=true) (bif bif ilt (30:Int) (↑(List.length (List.getD x1 (Int.toNat d2.1) ([]:List Int))):Int) then true else (getO (h38t (List.getD x1 (Int.toNat d2.1) ([]:List Int)) d2.2.1)).1 then some (Lp.out ((none,([]:List Int),false,()):Option TblD×List Int×Bool×Unit)) else R.gd (okO (h30t (tabF ((x0.1,x0.2.1,()):Int×Int×Unit)) (0:Int) (List.getD x1 (Int.toNat d2.1) ([]:List Int)))) (R.gd (List.length d2.2.2.1≤List.length d2.2.2.1) (R.gd ((List.length d2.2.2.1+(1:Nat))*(8:Nat)≤(1099511627776:Nat)) (R.gd (List.length d2.2.2.1+(1:Nat)=List.length (List.take (List.length d2.2.2.1) d2.2.2.1++(getO (h30t (tabF ((x0.1,x0.2.1,()):Int×Int×Unit)) (0:Int) (List.getD x1 (Int.toNat d2.1) ([]:List Int)))).1::([]:List Int))) (some (Lp.go ((wr .i64 (d2.1+(1:Int)),d2.2.1,List.take (List.length d2.2.2.1) d2.2.2.1++(getO (h30t (tabF ((x0.1,x0.2.1,()):Int×Int×Unit)) (0:Int) (List.getD x1 (Int.toNat d2.1) ([]:List Int)))).1::([]:List Int),()):Int×Int×List Int×Unit))))))))) else R.gd ((0:Nat)+List.length d2.2.2.1≤List.length d2.2.2.1) (some (Lp.out ((some (tabF ((x0.1,x0.2.1,()):Int×Int×Unit)),List.take (List.length d2.2.2.1) (List.drop (0:Nat) d2.2.2.1),true,()):Option TblD×List Int×Bool×Unit)))) (((0:Int),(getO (h36t ((x0.1,x0.2.1,()):Int×Int×Unit))).1,([]:List Int),()):Int×Int×List Int×Unit))))
def g16t (x0:Int×Int×Unit) (x1:List (List Int)):Option (Option TblD×List Int×Bool×Unit):=b16t rkO x0 x1
def qyj:List LSh:=LSh.mk (((7,TV.ref (0) 1 0 0):Nat×TV)::((9,TV.slf (1) (1)):Nat×TV)::((20,TV.v (Ty.int .i64)):Nat×TV)::([]:List (Nat×TV))) (TB.cells (TV.v (Ty.int .i64)::([]:List TV))::TB.arr (Ty.int .i64) true::([]:List TB))::([]:List LSh)
def b55t (R:Rk) (x0 x1:Int) (x2:Option TblD):Option (Int×Unit):=R.gd (Option.isSome x2=true) (R.gd (okO (h41t (Option.getD x2 zTbl) x0)) (R.gd (Option.isSome x2=true) (R.gd (okO (h41t (Option.getD x2 zTbl) x1)) (R.gd (okO (h49t (getO (h41t (Option.getD x2 zTbl) x0)).1 (getO (h41t (Option.getD x2 zTbl) x1)).1)) (R.gd (Option.isSome x2=true) (R.gd ((0:Int)≤x0∧x0<(↑(List.length (Option.getD x2 zTbl).2.1):Int)) (R.gd (Option.isSome x2=true) (R.gd ((0:Int)≤x1∧x1<(↑(List.length (Option.getD x2 zTbl).2.1):Int)) (R.gd (okO (h35t (List.getD (Option.getD x2 zTbl).2.1 (Int.toNat x0) ([]:List Int)) (List.getD (Option.getD x2 zTbl).2.1 (Int.toNat x1) ([]:List Int)))) (R.gd (okO (h56t ((getO (h49t (getO (h41t (Option.getD x2 zTbl) x0)).1 (getO (h41t (Option.getD x2 zTbl) x1)).1)).1::(getO (h35t (List.getD (Option.getD x2 zTbl).2.1 (Int.toNat x0) ([]:List Int)) (List.getD (Option.getD x2 zTbl).2.1 (Int.toNat x1) ([]:List Int)))).1::([]:List Int)))) (some (((getO (h56t ((getO (h49t (getO (h41t (Option.getD x2 zTbl) x0)).1 (getO (h41t (Option.getD x2 zTbl) x1)).1)).1::(getO (h35t (List.getD (Option.getD x2 zTbl).2.1 (Int.toNat x0) ([]:List Int)) (List.getD (Option.getD x2 zTbl).2.1 (Int.toNat x1) ([]:List Int)))).1::([]:List Int)))).1,()):Int×Unit))))))))))))
def g55t (x0 x1:Int) (x2:Option TblD):Option (Int×Unit):=b55t rkO x0 x1 x2
def qxq:List LSh:=([]:List LSh)
theorem gdRt {X:Type} {n:Nat} {p:Prop} [Decidable p] {a:Option X} (h:p):(rkF n).gd p a=a:=if_pos h
theorem qz3 {S X:Type} {n:Nat} {st:S→Option (Lp S X)} {s:S}:(rkF n).wh st s=qbr st n s:=rfl
theorem qcc {S X:Type} {step:S→Option (Lp S X)} {s s':S} {n m k:Nat} (hk:k=n+m) (h:qea step n s=some s'):qbr step k s=qbr step m s':=by
 subst hk;exact qkl h
theorem q4u (s:St37) (h:isS (some s) (st37 tab4 0 1)=true):(rkF 200).wh (qj5 (rkF 200)) s=qbr qc9 200 (st37 tab4 0 1) :=
 (qz3 (st:=qc9)).trans (congrArg (qbr qc9 200) (Option.some.inj (qfl h)))
theorem q3u:h37t (65,4,())=some (tab4,()):=by
 unfold h37t b37t;refine (gdRt (by decide +kernel)).trans ?_
 refine (gdRt (by decide +kernel)).trans ?_
 refine (gdRt (by decide +kernel)).trans ?_
 refine (gdRt (by decide +kernel)).trans ?_
 refine (gdRt (by decide +kernel)).trans ?_
 refine (q4u _ (by decide +kernel)).trans ?_
 refine (qcc (k:=200) (n:=10) (m:=190) (by decide) t4_0).trans ?_
 refine (qcc (k:=190) (n:=10) (m:=180) (by decide) t4_1).trans ?_
 refine (qcc (k:=180) (n:=10) (m:=170) (by decide) t4_2).trans ?_
 refine (qcc (k:=170) (n:=10) (m:=160) (by decide) t4_3).trans ?_
 refine (qcc (k:=160) (n:=10) (m:=150) (by decide) t4_4).trans ?_
 refine (qcc (k:=150) (n:=10) (m:=140) (by decide) t4_5).trans ?_
 refine (qcc (k:=140) (n:=10) (m:=130) (by decide) t4_6).trans ?_
 refine (qcc (k:=130) (n:=10) (m:=120) (by decide) t4_7).trans ?_
 refine (qcc (k:=120) (n:=10) (m:=110) (by decide) t4_8).trans ?_
 refine (qcc (k:=110) (n:=10) (m:=100) (by decide) t4_9).trans ?_
 refine (qcc (k:=100) (n:=10) (m:=90) (by decide) q7y).trans ?_
 refine (qcc (k:=90) (n:=10) (m:=80) (by decide) q7z).trans ?_
 exact qtw (by decide +kernel)
theorem q5u:qnh.goal Try.prog (spOf [qki,qkr,qoz,qni]) qxz [1023,1018,4019] lm30:=by
 have e:(∀ (g:Int×Int×Unit),grP g→g37t g=some (tabF g,()))=qnh.goal Try.prog (spOf [qki,qkr,qoz,qni]) qxz [1023,1018,4019] lm30:=by kernel_rfl
 rw [← e];rintro ⟨a,n,u⟩ ⟨h1,h2,h3⟩;cases u;simp only at h1 h2 h3;subst h1;have:n=1∨n=2∨n=3∨n=4:=by omega
 rcases this with rfl | rfl | rfl | rfl
 ·exact qpt _ _ q3o
 ·exact qpt _ _ q35
 ·exact qpt _ _ q3n
 ·exact qpt _ _ q3u
theorem q7s:qnh.Ok Try.prog:=Con.of_goal mixed (okC q7h (okC q68 (okC q7r (okC q8j okN)))) qnh q5u
def h16t (x0:Int×Int×Unit) (x1:List (List Int)):Option (Option TblD×List Int×Bool×Unit):=b16t (rkF 60) x0 x1
theorem q5z {n:Nat} (x0:Int×Int×Unit) (x1:List (List Int)):LeO (b16t (rkF n) x0 x1) (b16t rkO x0 x1):=by
 unfold b16t
 repeat' first | with_reducible exact qag | with_reducible refine qa5 ?_ | with_reducible refine qaf ?_ ?_ | with_reducible refine qar ?_ | with_reducible refine qa6 ?_ ?_ | (refine qa7 fun s=>?_;try dsimp only)
theorem q4b (x0:Int×Int×Unit) (x1:List (List Int)):LeO (h16t x0 x1) (g16t x0 x1):=q5z x0 x1
def qhr:Con:=mkC 16 [.d GrT,.d LLI] [.optr TblT,LI,.bool] (fun (x0:Int×Int×Unit) (x1:List (List Int))=>[okO (h16t x0 x1)]) (fun (x0:Int×Int×Unit) (x1:List (List Int))=>@getO ((Option TblD×List Int×Bool×Unit)) _ (h16t x0 x1))
theorem q3d:qhr.goal Try.prog (spOf [qki,qnh,qo3,qny]) qyj [] lm30:=by
 have e:(∀ (x0:Int×Int×Unit) (x1:List (List Int)),okO (h16t x0 x1)→g16t x0 x1=some (getO (h16t x0 x1)))=qhr.goal Try.prog (spOf [qki,qnh,qo3,qny]) qyj [] lm30:=by kernel_rfl
 rw [← e];intro x0 x1 h;exact qbm (q4b x0 x1) h
theorem q4n:qhr.Ok Try.prog:=Con.of_goal mixed (okC q7h (okC q7s (okC q8k (okC q8e okN)))) qhr q3d
def h55t (x0 x1:Int) (x2:Option TblD):Option (Int×Unit):=b55t (rkF 60) x0 x1 x2
theorem q4c {n:Nat} (x0 x1:Int) (x2:Option TblD):LeO (b55t (rkF n) x0 x1 x2) (b55t rkO x0 x1 x2):=by
 unfold b55t
 repeat' first | with_reducible exact qag | with_reducible refine qa5 ?_ | with_reducible refine qaf ?_ ?_ | with_reducible refine qar ?_ | with_reducible refine qa6 ?_ ?_ | (refine qa7 fun s=>?_;try dsimp only)
theorem q5y (x0 x1:Int) (x2:Option TblD):LeO (h55t x0 x1 x2) (g55t x0 x1 x2):=q4c x0 x1 x2
def qgi:Con:=mkC 55 [.d I64,.d I64,.d (.ptr (.optr TblT))] [I64] (fun (x0 x1:Int) (x2:Option TblD)=>[okO (h55t x0 x1 x2)]) (fun (x0 x1:Int) (x2:Option TblD)=>@getO ((Int×Unit)) _ (h55t x0 x1 x2))
theorem q4q:qgi.goal Try.prog (spOf [qkg,qku,qn1,qnk]) qxq [] lm30:=by
 have e:(∀ (x0 x1:Int) (x2:Option TblD),okO (h55t x0 x1 x2)→g55t x0 x1 x2=some (getO (h55t x0 x1 x2)))=qgi.goal Try.prog (spOf [qkg,qku,qn1,qnk]) qxq [] lm30:=by kernel_rfl
 rw [← e];intro x0 x1 x2 h;exact qbm (q5y x0 x1 x2) h
theorem qz2:qgi.Ok Try.prog:=Con.of_goal mixed (okC q66 (okC q7i (okC q7x (okC q7k okN)))) qgi q4q
def b6t (R:Rk) (x0:Int×Int×Unit) (x1:List Int):Option (Int×Int×Unit):=R.gd (okO (h16t ((x0.1,x0.2.1,()):Int×Int×Unit) (x1::([]:List (List Int))))) (bif !(getO (h16t ((x0.1,x0.2.1,()):Int×Int×Unit) (x1::([]:List (List Int))))).2.2.1 then some (((0:Int),(2:Int),()):Int×Int×Unit) else R.gd ((0:Int)≤(0:Int)∧(0:Int)<(↑(List.length (getO (h16t ((x0.1,x0.2.1,()):Int×Int×Unit) (x1::([]:List (List Int))))).2.1):Int)) (R.gd (Option.isSome (getO (h16t ((x0.1,x0.2.1,()):Int×Int×Unit) (x1::([]:List (List Int))))).1=true) (R.gd (okO (h19t (Option.getD (getO (h16t ((x0.1,x0.2.1,()):Int×Int×Unit) (x1::([]:List (List Int))))).1 zTbl) (List.getD (getO (h16t ((x0.1,x0.2.1,()):Int×Int×Unit) (x1::([]:List (List Int))))).2.1 (0:Nat) (0:Int)))) (some (((getO (h19t (Option.getD (getO (h16t ((x0.1,x0.2.1,()):Int×Int×Unit) (x1::([]:List (List Int))))).1 zTbl) (List.getD (getO (h16t ((x0.1,x0.2.1,()):Int×Int×Unit) (x1::([]:List (List Int))))).2.1 (0:Nat) (0:Int)))).1,(0:Int),()):Int×Int×Unit)))))
def g6t (x0:Int×Int×Unit) (x1:List Int):Option (Int×Int×Unit):=b6t rkO x0 x1
def q16:List LSh:=([]:List LSh)
def b27t (R:Rk) (x0:Int×Int×Unit) (x1:List Int):Option (List Int×Int×Unit):=R.gd (okO (h16t ((x0.1,x0.2.1,()):Int×Int×Unit) (x1::([]:List (List Int))))) (bif !(getO (h16t ((x0.1,x0.2.1,()):Int×Int×Unit) (x1::([]:List (List Int))))).2.2.1 then some ((([]:List Int),(2:Int),()):List Int×Int×Unit) else R.gd ((0:Int)≤(0:Int)∧(0:Int)<(↑(List.length (getO (h16t ((x0.1,x0.2.1,()):Int×Int×Unit) (x1::([]:List (List Int))))).2.1):Int)) (R.gd (Option.isSome (getO (h16t ((x0.1,x0.2.1,()):Int×Int×Unit) (x1::([]:List (List Int))))).1=true) (R.gd (okO (h29t (Option.getD (getO (h16t ((x0.1,x0.2.1,()):Int×Int×Unit) (x1::([]:List (List Int))))).1 zTbl) (List.getD (getO (h16t ((x0.1,x0.2.1,()):Int×Int×Unit) (x1::([]:List (List Int))))).2.1 (0:Nat) (0:Int)))) (some (((getO (h29t (Option.getD (getO (h16t ((x0.1,x0.2.1,()):Int×Int×Unit) (x1::([]:List (List Int))))).1 zTbl) (List.getD (getO (h16t ((x0.1,x0.2.1,()):Int×Int×Unit) (x1::([]:List (List Int))))).2.1 (0:Nat) (0:Int)))).1,(0:Int),()):List Int×Int×Unit)))))
def g27t (x0:Int×Int×Unit) (x1:List Int):Option (List Int×Int×Unit):=b27t rkO x0 x1
def qxd:List LSh:=([]:List LSh)
def b13t (R:Rk) (x0 x1:List Int):Option (Bool×Unit):=bif !ieq (↑(List.length x0):Int) (↑(List.length x1):Int) then some ((false,()):Bool×Unit) else R.wh (fun (d2:Int×Unit)=>bif ilt d2.1 (↑(List.length x0):Int) then R.gd ((0:Int)≤d2.1∧d2.1<(↑(List.length x0):Int)) (R.gd ((0:Int)≤d2.1∧d2.1<(↑(List.length x1):Int)) (bif !ieq (List.getD x0 (Int.toNat d2.1) (0:Int)) (List.getD x1 (Int.toNat d2.1) (0:Int)) then some (Lp.out ((false,()):Bool×Unit)) else some (Lp.go ((wr .i64 (d2.1+(1:Int)),()):Int×Unit)))) else some (Lp.out ((true,()):Bool×Unit))) (((0:Int),()):Int×Unit)
def g13t (x0 x1:List Int):Option (Bool×Unit):=b13t rkO x0 x1
def qwu:List LSh:=LSh.mk (((13,TV.v (Ty.int .i64)):Nat×TV)::([]:List (Nat×TV))) ([]:List TB)::([]:List LSh)
def h6t (x0:Int×Int×Unit) (x1:List Int):Option (Int×Int×Unit):=b6t (rkF 200) x0 x1
theorem q57 {n:Nat} (x0:Int×Int×Unit) (x1:List Int):LeO (b6t (rkF n) x0 x1) (b6t rkO x0 x1):=by
 unfold b6t
 repeat' first | with_reducible exact qag | with_reducible refine qa5 ?_ | with_reducible refine qaf ?_ ?_ | with_reducible refine qar ?_ | with_reducible refine qa6 ?_ ?_ | (refine qa7 fun s=>?_;try dsimp only)
theorem quy (x0:Int×Int×Unit) (x1:List Int):LeO (h6t x0 x1) (g6t x0 x1):=q57 x0 x1
def h27t (x0:Int×Int×Unit) (x1:List Int):Option (List Int×Int×Unit):=b27t (rkF 200) x0 x1
theorem q3y {n:Nat} (x0:Int×Int×Unit) (x1:List Int):LeO (b27t (rkF n) x0 x1) (b27t rkO x0 x1):=by
 unfold b27t
 repeat' first | with_reducible exact qag | with_reducible refine qa5 ?_ | with_reducible refine qaf ?_ ?_ | with_reducible refine qar ?_ | with_reducible refine qa6 ?_ ?_ | (refine qa7 fun s=>?_;try dsimp only)
theorem q4e (x0:Int×Int×Unit) (x1:List Int):LeO (h27t x0 x1) (g27t x0 x1):=q3y x0 x1
def qnt:Con:=mkC 27 [.d GrT,.d LI] [LI,I64] (fun (x0:Int×Int×Unit) (x1:List Int)=>[okO (h27t x0 x1)]) (fun (x0:Int×Int×Unit) (x1:List Int)=>@getO ((List Int×Int×Unit)) _ (h27t x0 x1))
theorem q4h:qnt.goal Try.prog (spOf [qhr,qkh]) qxd [] lm30:=by
 have e:(∀ (x0:Int×Int×Unit) (x1:List Int),okO (h27t x0 x1)→g27t x0 x1=some (getO (h27t x0 x1)))=qnt.goal Try.prog (spOf [qhr,qkh]) qxd [] lm30:=by kernel_rfl
 rw [← e];intro x0 x1 h;exact qbm (q4e x0 x1) h
theorem q8i:qnt.Ok Try.prog:=Con.of_goal mixed (okC q4n (okC q6t okN)) qnt q4h
def h13t (x0 x1:List Int):Option (Bool×Unit):=b13t (rkF 200) x0 x1
theorem q4r {n:Nat} (x0 x1:List Int):LeO (b13t (rkF n) x0 x1) (b13t rkO x0 x1):=by
 unfold b13t
 repeat' first | with_reducible exact qag | with_reducible refine qa5 ?_ | with_reducible refine qaf ?_ ?_ | with_reducible refine qar ?_ | with_reducible refine qa6 ?_ ?_ | (refine qa7 fun s=>?_;try dsimp only)
theorem q4j (x0 x1:List Int):LeO (h13t x0 x1) (g13t x0 x1):=q4r x0 x1
def qo4:Con:=mkC 13 [.d LI,.d LI] [.bool] (fun (x0 x1:List Int)=>[okO (h13t x0 x1)]) (fun (x0 x1:List Int)=>@getO ((Bool×Unit)) _ (h13t x0 x1))
theorem q5a:qo4.goal Try.prog (spOf []) qwu [] lm30:=by
 have e:(∀ (x0 x1:List Int),okO (h13t x0 x1)→g13t x0 x1=some (getO (h13t x0 x1)))=qo4.goal Try.prog (spOf []) qwu [] lm30:=by kernel_rfl
 rw [← e];intro x0 x1 h;exact qbm (q4j x0 x1) h
theorem q7m:qo4.Ok Try.prog:=Con.of_goal mixed okN qo4 q5a
end
end Go.Top
