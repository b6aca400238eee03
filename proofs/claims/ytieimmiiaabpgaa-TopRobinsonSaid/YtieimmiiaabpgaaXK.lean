/- Groups of mirrors: contracts. -/
import Derived.Test.YtieimmiiaabpgaaXS
set_option linter.unusedVariables false
set_option linter.unusedSimpArgs false
set_option maxRecDepth 100000
namespace Go.Top
noncomputable section
open Go Go.Ab Go.Proofs Go.Schur
def b5t (R:Rk) (x0:Int×Int×Unit):Option (List (List Int)×Int×Unit):=R.gd (okO (h16t ((x0.1,x0.2.1,()):Int×Int×Unit) ([]:List (List Int)))) (bif !(getO (h16t ((x0.1,x0.2.1,()):Int×Int×Unit) ([]:List (List Int)))).2.2.1 then some ((([]:List (List Int)),(2:Int),()):List (List Int)×Int×Unit) else R.gd (okO (h18t (getO (h16t ((x0.1,x0.2.1,()):Int×Int×Unit) ([]:List (List Int)))).1)) (R.gd (Option.isSome (getO (h16t ((x0.1,x0.2.1,()):Int×Int×Unit) ([]:List (List Int)))).1=true) (R.gd (okO (h17t (Option.getD (getO (h16t ((x0.1,x0.2.1,()):Int×Int×Unit) ([]:List (List Int)))).1 zTbl) (getO (h18t (getO (h16t ((x0.1,x0.2.1,()):Int×Int×Unit) ([]:List (List Int)))).1)).1)) (some (((getO (h17t (Option.getD (getO (h16t ((x0.1,x0.2.1,()):Int×Int×Unit) ([]:List (List Int)))).1 zTbl) (getO (h18t (getO (h16t ((x0.1,x0.2.1,()):Int×Int×Unit) ([]:List (List Int)))).1)).1)).1,(0:Int),()):List (List Int)×Int×Unit)))))
def g5t (x0:Int×Int×Unit):Option (List (List Int)×Int×Unit):=b5t rkO x0
def q4n:List LSh:=([]:List LSh)
def h5t (x0:Int×Int×Unit):Option (List (List Int)×Int×Unit):=b5t (rkF 200) x0
theorem zaf {n:Nat} (x0:Int×Int×Unit):LeO (b5t (rkF n) x0) (b5t rkO x0):=by
 unfold b5t
 repeat' first | with_reducible exact qag | with_reducible refine qao ?_ | with_reducible refine qaf ?_ ?_ | with_reducible refine qaj ?_ | with_reducible refine qaq ?_ ?_ | (refine qap fun s=>?_;try dsimp only)
theorem qw1 (x0:Int×Int×Unit):LeO (h5t x0) (g5t x0):=zaf x0
instance (k:Nat) (n most:Int) (b:List Int):Decidable (preS k n most b):=by unfold preS;infer_instance
def b8t (R:Rk) (x0:Int):Option (List (List Int)×Unit):=R.gd (preS (9:Nat) x0 x0 ([]:List Int)) (some ((shF (9:Nat) x0 x0 ([]:List Int),()):List (List Int)×Unit))
def g8t (x0:Int):Option (List (List Int)×Unit):=b8t rkO x0
def q4w:List LSh:=([]:List LSh)
def b10t (R:Rk) (x0:List Int):Option (Int×Int×Unit):=R.gd (List.length x0≤(1000:Nat)) (R.gd ((1:Int)::([]:List Int)=(1:Int)::([]:List Int)∧(0:Int)≤imin (imax (boxW x0) (0:Int)) (8:Int)∧imin (imax (boxW x0) (0:Int)) (8:Int)≤(8:Int)) (R.gd (List.length x0≤(1000:Nat)∧List.length (List.replicate (Int.toNat (imin (imax (boxW x0) (0:Int)) (8:Int))) (1:Int))≤(1000:Nat)) (some (((kosF x0 (List.replicate (Int.toNat (imin (imax (boxW x0) (0:Int)) (8:Int))) (1:Int))).1,(kosF x0 (List.replicate (Int.toNat (imin (imax (boxW x0) (0:Int)) (8:Int))) (1:Int))).2.1,()):Int×Int×Unit))))
def g10t (x0:List Int):Option (Int×Int×Unit):=b10t rkO x0
def q14:List LSh:=([]:List LSh)
def b11t (R:Rk)  : Option (Bool×Unit):=R.gd (okO (h27t (((65:Int),(2:Int),()):Int×Int×Unit) ((1:Int)::(1:Int)::(0:Int)::([]:List Int)))) (R.gd (ieq (getO (h27t (((65:Int),(2:Int),()):Int×Int×Unit) ((1:Int)::(1:Int)::(0:Int)::([]:List Int)))).2.1 (0:Int)=true→ieq (getO (h27t (((65:Int),(2:Int),()):Int×Int×Unit) ((1:Int)::(1:Int)::(0:Int)::([]:List Int)))).2.1 (0:Int)=true∧ieq (getO (h27t (((65:Int),(2:Int),()):Int×Int×Unit) ((1:Int)::(1:Int)::(0:Int)::([]:List Int)))).2.1 (0:Int)=true∧okO (h13t (getO (h27t (((65:Int),(2:Int),()):Int×Int×Unit) ((1:Int)::(1:Int)::(0:Int)::([]:List Int)))).1 ((0:Int)::([]:List Int)))) (R.gd (ieq (getO (h27t (((65:Int),(2:Int),()):Int×Int×Unit) ((1:Int)::(1:Int)::(0:Int)::([]:List Int)))).2.1 (0:Int)=true→ieq (getO (h27t (((65:Int),(2:Int),()):Int×Int×Unit) ((1:Int)::(1:Int)::(0:Int)::([]:List Int)))).2.1 (0:Int)=true) (some ((bif ieq (getO (h27t (((65:Int),(2:Int),()):Int×Int×Unit) ((1:Int)::(1:Int)::(0:Int)::([]:List Int)))).2.1 (0:Int) then (getO (h13t (getO (h27t (((65:Int),(2:Int),()):Int×Int×Unit) ((1:Int)::(1:Int)::(0:Int)::([]:List Int)))).1 ((0:Int)::([]:List Int)))).1 else false,()):Bool×Unit))))
def g11t  : Option (Bool×Unit):=b11t rkO
def qzd:List LSh:=([]:List LSh)
def h8t (x0:Int):Option (List (List Int)×Unit):=b8t (rkF 200) x0
theorem zab {n:Nat} (x0:Int):LeO (b8t (rkF n) x0) (b8t rkO x0):=by
 unfold b8t
 repeat' first | with_reducible exact qag | with_reducible refine qao ?_ | with_reducible refine qaf ?_ ?_ | with_reducible refine qaj ?_ | with_reducible refine qaq ?_ ?_ | (refine qap fun s=>?_;try dsimp only)
theorem zbq (x0:Int):LeO (h8t x0) (g8t x0):=zab x0
def qxd:Con:=mkC 8 [.d I64] [LLI] (fun (x0:Int)=>[okO (h8t x0)]) (fun (x0:Int)=>@getO ((List (List Int)×Unit)) _ (h8t x0))
theorem za5:qxd.goal Try.prog (spS [qt7 9] []) q4w [] lm30:=by
 have e:(∀ (x0:Int),okO (h8t x0)→g8t x0=some (getO (h8t x0)))=qxd.goal Try.prog (spS [qt7 9] []) q4w [] lm30:=by kernel_rfl
 rw [← e];intro x0 h;exact qa1 (zbq x0) h
theorem ok8t:qxd.Ok Try.prog:=Con.of_goalS qa3 okN (okS (ok84 9) okS0) qxd za5
def h10t (x0:List Int):Option (Int×Int×Unit):=b10t (rkF 200) x0
theorem q5m {n:Nat} (x0:List Int):LeO (b10t (rkF n) x0) (b10t rkO x0):=by
 unfold b10t
 repeat' first | with_reducible exact qag | with_reducible refine qao ?_ | with_reducible refine qaf ?_ ?_ | with_reducible refine qaj ?_ | with_reducible refine qaq ?_ ?_ | (refine qap fun s=>?_;try dsimp only)
theorem q58 (x0:List Int):LeO (h10t x0) (g10t x0):=q5m x0
def qpw:Con:=mkC 10 [.d LI] [I64,I64] (fun (x0:List Int)=>[okO (h10t x0)]) (fun (x0:List Int)=>@getO ((Int×Int×Unit)) _ (h10t x0))
theorem q47:qpw.goal Try.prog (spOf [qly,qx0,qxx]) q14 [] lm30:=by
 have e:(∀ (x0:List Int),okO (h10t x0)→g10t x0=some (getO (h10t x0)))=qpw.goal Try.prog (spOf [qly,qx0,qxx]) q14 [] lm30:=by kernel_rfl
 rw [← e];intro x0 h;exact qa1 (q58 x0) h
theorem zcj:qpw.Ok Try.prog:=Con.of_goal qa3 (okC ok86 (okC ok85 (okC ok21 okN))) qpw q47
def h11t  : Option (Bool×Unit):=b11t (rkF 200)
theorem q81 {n:Nat}  : LeO (b11t (rkF n) ) (b11t rkO ):=by
 unfold b11t
 repeat' first | with_reducible exact qag | with_reducible refine qao ?_ | with_reducible refine qaf ?_ ?_ | with_reducible refine qaj ?_ | with_reducible refine qaq ?_ ?_ | (refine qap fun s=>?_;try dsimp only)
theorem q7l  : LeO (h11t ) (g11t ):=q81
def qop:Con:=mkC 11 [] [.bool] ([okO h11t]) (@getO ((Bool×Unit)) _ h11t)
theorem q72:qop.goal Try.prog (spOf [qo0,qle]) qzd [] lm30:=by
 have e:(okO h11t→g11t  = some (getO h11t))=qop.goal Try.prog (spOf [qo0,qle]) qzd [] lm30:=by kernel_rfl
 rw [← e];intro  h;exact qa1 (q7l ) h
theorem zb8:qop.Ok Try.prog:=Con.of_goal qa3 (okC zcv (okC zai okN)) qop q72
def is5 (o:Option (List (List Int)×Int×Unit)) (l:List (List Int)):Bool:=match o with
 | some x=>eqL (eqL ieq) x.1 l && ieq x.2.1 0
 | none=>false
theorem qvz {o:Option (List (List Int)×Int×Unit)} {l:List (List Int)} (h:is5 o l=true):o=some (l,0,()):=by
 match o,h with
 | some (a,b,()),h =>
  simp only [is5,wa4] at h;have e1:a=l:=qfk (qfk fun h=>qcg.1 h) h.1
  have e2:=qcg.1 h.2;subst e1 e2;rfl
def qx1:Con:=mkC 5 [.d GrT] [LLI,I64] (fun (g:Int×Int×Unit)=>[grP g]) (fun (g:Int×Int×Unit)=>((tabF g).2.1,(0:Int),()))
theorem q1y {Q:Int×Int×Unit→Prop} (h1:Q (65,1,())) (h2:Q (65,2,())) (h3:Q (65,3,())) (h4:Q (65,4,())):∀ g,grP g→Q g:=by
 rintro ⟨a,n,u⟩ ⟨k1,k2,k3⟩;cases u;simp only at k1 k2 k3;subst k1;have:n=1∨n=2∨n=3∨n=4:=by omega
 rcases this with rfl | rfl | rfl | rfl
 ·exact h1
 ·exact h2
 ·exact h3
 ·exact h4
theorem all1:h5t (65,1,())=some (tab1.2.1,0,()):=qvz (by decide +kernel)
theorem all2:h5t (65,2,())=some (tab2.2.1,0,()):=qvz (by decide +kernel)
theorem all3:h5t (65,3,())=some (tab3.2.1,0,()):=qvz (by decide +kernel)
theorem all4:h5t (65,4,())=some (tab4.2.1,0,()):=qvz (by decide +kernel)
theorem zam:qx1.goal Try.prog (spOf [qfm,qpr,qot]) q4n [] lm30:=by
 have e:(∀ (g:Int×Int×Unit),grP g→g5t g=some ((tabF g).2.1,0,()))=qx1.goal Try.prog (spOf [qfm,qpr,qot]) q4n [] lm30:=by kernel_rfl
 rw [← e];exact q1y (qw1 _ _ all1) (qw1 _ _ all2) (qw1 _ _ all3) (qw1 _ _ all4)
theorem ok5c:qx1.Ok Try.prog:=Con.of_goal qa3 (okC q00 (okC zcb (okC zc2 okN))) qx1 zam
end
end Go.Top
