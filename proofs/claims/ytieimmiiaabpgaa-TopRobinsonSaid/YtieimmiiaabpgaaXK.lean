/- Groups of mirrors: contracts. -/
import Derived.Test.YtieimmiiaabpgaaXS
set_option linter.unusedVariables false
set_option linter.unusedSimpArgs false
set_option maxRecDepth 100000
namespace Go.Top
noncomputable section
open Go Go.Ab Go.Proofs Go.Schur
def b5t (R:Rk) (x0:Int×Int×Unit):Option (List (List Int)×Int×Unit):=R.gd (okO (h16t ((x0.1,x0.2.1,()):Int×Int×Unit) ([]:List (List Int)))) (bif !(getO (h16t ((x0.1,x0.2.1,()):Int×Int×Unit) ([]:List (List Int)))).2.2.1 then some ((([]:List (List Int)),(2:Int),()):List (List Int)×Int×Unit) else R.gd (okO (h18t (getO (h16t ((x0.1,x0.2.1,()):Int×Int×Unit) ([]:List (List Int)))).1)) (R.gd (Option.isSome (getO (h16t ((x0.1,x0.2.1,()):Int×Int×Unit) ([]:List (List Int)))).1=true) (R.gd (okO (h17t (Option.getD (getO (h16t ((x0.1,x0.2.1,()):Int×Int×Unit) ([]:List (List Int)))).1 zTbl) (getO (h18t (getO (h16t ((x0.1,x0.2.1,()):Int×Int×Unit) ([]:List (List Int)))).1)).1)) (some (((getO (h17t (Option.getD (getO (h16t ((x0.1,x0.2.1,()):Int×Int×Unit) ([]:List (List Int)))).1 zTbl) (getO (h18t (getO (h16t ((x0.1,x0.2.1,()):Int×Int×Unit) ([]:List (List Int)))).1)).1)).1,(0:Int),()):List (List Int)×Int×Unit)))))
def g5t (x0:Int×Int×Unit):Option (List (List Int)×Int×Unit):=b5t rkO x0
def q4t:List LSh:=([]:List LSh)
def h5t (x0:Int×Int×Unit):Option (List (List Int)×Int×Unit):=b5t (rkF 200) x0
theorem zbq {n:Nat} (x0:Int×Int×Unit):LeO (b5t (rkF n) x0) (b5t rkO x0):=by
 unfold b5t
 repeat' first | with_reducible exact qaf | with_reducible refine qaq ?_ | with_reducible refine qag ?_ ?_ | with_reducible refine qaj ?_ | with_reducible refine qan ?_ ?_ | (refine qar fun s=>?_;try dsimp only)
theorem qv9 (x0:Int×Int×Unit):LeO (h5t x0) (g5t x0):=zbq x0
instance (k:Nat) (n most:Int) (b:List Int):Decidable (preS k n most b):=by unfold preS;infer_instance
def b8t (R:Rk) (x0:Int):Option (List (List Int)×Unit):=R.gd (preS (9:Nat) x0 x0 ([]:List Int)) (some ((shF (9:Nat) x0 x0 ([]:List Int),()):List (List Int)×Unit))
def g8t (x0:Int):Option (List (List Int)×Unit):=b8t rkO x0
def q38:List LSh:=([]:List LSh)
def b10t (R:Rk) (x0:List Int):Option (Int×Int×Unit):=R.gd (List.length x0≤(1000:Nat)) (R.gd ((1:Int)::([]:List Int)=(1:Int)::([]:List Int)∧(0:Int)≤imin (imax (boxW x0) (0:Int)) (8:Int)∧imin (imax (boxW x0) (0:Int)) (8:Int)≤(8:Int)) (R.gd (List.length x0≤(1000:Nat)∧List.length (List.replicate (Int.toNat (imin (imax (boxW x0) (0:Int)) (8:Int))) (1:Int))≤(1000:Nat)) (some (((kosF x0 (List.replicate (Int.toNat (imin (imax (boxW x0) (0:Int)) (8:Int))) (1:Int))).1,(kosF x0 (List.replicate (Int.toNat (imin (imax (boxW x0) (0:Int)) (8:Int))) (1:Int))).2.1,()):Int×Int×Unit))))
def g10t (x0:List Int):Option (Int×Int×Unit):=b10t rkO x0
def q11:List LSh:=([]:List LSh)
def b11t (R:Rk)  : Option (Bool×Unit):=R.gd (okO (h27t (((65:Int),(2:Int),()):Int×Int×Unit) ((1:Int)::(1:Int)::(0:Int)::([]:List Int)))) (R.gd (ieq (getO (h27t (((65:Int),(2:Int),()):Int×Int×Unit) ((1:Int)::(1:Int)::(0:Int)::([]:List Int)))).2.1 (0:Int)=true→ieq (getO (h27t (((65:Int),(2:Int),()):Int×Int×Unit) ((1:Int)::(1:Int)::(0:Int)::([]:List Int)))).2.1 (0:Int)=true∧ieq (getO (h27t (((65:Int),(2:Int),()):Int×Int×Unit) ((1:Int)::(1:Int)::(0:Int)::([]:List Int)))).2.1 (0:Int)=true∧okO (h13t (getO (h27t (((65:Int),(2:Int),()):Int×Int×Unit) ((1:Int)::(1:Int)::(0:Int)::([]:List Int)))).1 ((0:Int)::([]:List Int)))) (R.gd (ieq (getO (h27t (((65:Int),(2:Int),()):Int×Int×Unit) ((1:Int)::(1:Int)::(0:Int)::([]:List Int)))).2.1 (0:Int)=true→ieq (getO (h27t (((65:Int),(2:Int),()):Int×Int×Unit) ((1:Int)::(1:Int)::(0:Int)::([]:List Int)))).2.1 (0:Int)=true) (some ((bif ieq (getO (h27t (((65:Int),(2:Int),()):Int×Int×Unit) ((1:Int)::(1:Int)::(0:Int)::([]:List Int)))).2.1 (0:Int) then (getO (h13t (getO (h27t (((65:Int),(2:Int),()):Int×Int×Unit) ((1:Int)::(1:Int)::(0:Int)::([]:List Int)))).1 ((0:Int)::([]:List Int)))).1 else false,()):Bool×Unit))))
def g11t  : Option (Bool×Unit):=b11t rkO
def qy5:List LSh:=([]:List LSh)
def h8t (x0:Int):Option (List (List Int)×Unit):=b8t (rkF 200) x0
theorem zaz {n:Nat} (x0:Int):LeO (b8t (rkF n) x0) (b8t rkO x0):=by
 unfold b8t
 repeat' first | with_reducible exact qaf | with_reducible refine qaq ?_ | with_reducible refine qag ?_ ?_ | with_reducible refine qaj ?_ | with_reducible refine qan ?_ ?_ | (refine qar fun s=>?_;try dsimp only)
theorem zai (x0:Int):LeO (h8t x0) (g8t x0):=zaz x0
def qxk:Con:=mkC 8 [.d I64] [LLI] (fun (x0:Int)=>[okO (h8t x0)]) (fun (x0:Int)=>@getO ((List (List Int)×Unit)) _ (h8t x0))
theorem zan:qxk.goal Try.prog (spS [qt2 9] []) q38 [] lm30:=by
 have e:(∀ (x0:Int),okO (h8t x0)→g8t x0=some (getO (h8t x0)))=qxk.goal Try.prog (spS [qt2 9] []) q38 [] lm30:=by kernel_rfl
 rw [← e];intro x0 h;exact qa1 (zai x0) h
theorem ok8t:qxk.Ok Try.prog:=Con.of_goalS mixed okN (okS (ok84 9) okS0) qxk zan
def h10t (x0:List Int):Option (Int×Int×Unit):=b10t (rkF 200) x0
theorem q9z {n:Nat} (x0:List Int):LeO (b10t (rkF n) x0) (b10t rkO x0):=by
 unfold b10t
 repeat' first | with_reducible exact qaf | with_reducible refine qaq ?_ | with_reducible refine qag ?_ ?_ | with_reducible refine qaj ?_ | with_reducible refine qan ?_ ?_ | (refine qar fun s=>?_;try dsimp only)
theorem q8i (x0:List Int):LeO (h10t x0) (g10t x0):=q9z x0
def qp2:Con:=mkC 10 [.d LI] [I64,I64] (fun (x0:List Int)=>[okO (h10t x0)]) (fun (x0:List Int)=>@getO ((Int×Int×Unit)) _ (h10t x0))
theorem q7n:qp2.goal Try.prog (spOf [qlx,qx8,qxi]) q11 [] lm30:=by
 have e:(∀ (x0:List Int),okO (h10t x0)→g10t x0=some (getO (h10t x0)))=qp2.goal Try.prog (spOf [qlx,qx8,qxi]) q11 [] lm30:=by kernel_rfl
 rw [← e];intro x0 h;exact qa1 (q8i x0) h
theorem zcr:qp2.Ok Try.prog:=Con.of_goal mixed (okC ok86 (okC ok85 (okC ok21 okN))) qp2 q7n
def h11t  : Option (Bool×Unit):=b11t (rkF 200)
theorem q61 {n:Nat}  : LeO (b11t (rkF n) ) (b11t rkO ):=by
 unfold b11t
 repeat' first | with_reducible exact qaf | with_reducible refine qaq ?_ | with_reducible refine qag ?_ ?_ | with_reducible refine qaj ?_ | with_reducible refine qan ?_ ?_ | (refine qar fun s=>?_;try dsimp only)
theorem q5c  : LeO (h11t ) (g11t ):=q61
def qpn:Con:=mkC 11 [] [.bool] ([okO h11t]) (@getO ((Bool×Unit)) _ h11t)
theorem q6r:qpn.goal Try.prog (spOf [qqd,qlo]) qy5 [] lm30:=by
 have e:(okO h11t→g11t  = some (getO h11t))=qpn.goal Try.prog (spOf [qqd,qlo]) qy5 [] lm30:=by kernel_rfl
 rw [← e];intro  h;exact qa1 (q5c ) h
theorem zce:qpn.Ok Try.prog:=Con.of_goal mixed (okC zb7 (okC zbd okN)) qpn q6r
def is5 (o:Option (List (List Int)×Int×Unit)) (l:List (List Int)):Bool:=match o with
 | some x=>eqL (eqL ieq) x.1 l && ieq x.2.1 0
 | none=>false
theorem qwj {o:Option (List (List Int)×Int×Unit)} {l:List (List Int)} (h:is5 o l=true):o=some (l,0,()):=by
 match o,h with
 | some (a,b,()),h =>
  simp only [is5,wa4] at h;have e1:a=l:=qfi (qfi fun h=>qcg.1 h) h.1
  have e2:=qcg.1 h.2;subst e1 e2;rfl
def qx5:Con:=mkC 5 [.d GrT] [LLI,I64] (fun (g:Int×Int×Unit)=>[grP g]) (fun (g:Int×Int×Unit)=>((tabF g).2.1,(0:Int),()))
theorem q04 {Q:Int×Int×Unit→Prop} (h1:Q (65,1,())) (h2:Q (65,2,())) (h3:Q (65,3,())) (h4:Q (65,4,())):∀ g,grP g→Q g:=by
 rintro ⟨a,n,u⟩ ⟨k1,k2,k3⟩;cases u;simp only at k1 k2 k3;subst k1;have:n=1∨n=2∨n=3∨n=4:=by omega
 rcases this with rfl | rfl | rfl | rfl
 ·exact h1
 ·exact h2
 ·exact h3
 ·exact h4
theorem all1:h5t (65,1,())=some (tab1.2.1,0,()):=qwj (by decide +kernel)
theorem all2:h5t (65,2,())=some (tab2.2.1,0,()):=qwj (by decide +kernel)
theorem all3:h5t (65,3,())=some (tab3.2.1,0,()):=qwj (by decide +kernel)
theorem all4:h5t (65,4,())=some (tab4.2.1,0,()):=qwj (by decide +kernel)
theorem za6:qx5.goal Try.prog (spOf [qfj,qqn,qp8]) q4t [] lm30:=by
 have e:(∀ (g:Int×Int×Unit),grP g→g5t g=some ((tabF g).2.1,0,()))=qx5.goal Try.prog (spOf [qfj,qqn,qp8]) q4t [] lm30:=by kernel_rfl
 rw [← e];exact q04 (qv9 _ _ all1) (qv9 _ _ all2) (qv9 _ _ all3) (qv9 _ _ all4)
theorem ok5c:qx5.Ok Try.prog:=Con.of_goal mixed (okC q15 (okC zb4 (okC zcb okN))) qx5 za6
end
end Go.Top
