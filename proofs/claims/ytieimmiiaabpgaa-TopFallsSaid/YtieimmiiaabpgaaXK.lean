/- Groups of mirrors: contracts. -/
import Derived.Test.YtieimmiiaabpgaaXS
set_option linter.unusedVariables false
set_option linter.unusedSimpArgs false
set_option maxRecDepth 100000
namespace Go.Top
noncomputable section
open Go Go.Ab Go.Proofs Go.Schur
def b5t (R:Rk) (x0:Int×Int×Unit):Option (List (List Int)×Int×Unit):=R.gd (okO (h16t ((x0.1,x0.2.1,()):Int×Int×Unit) ([]:List (List Int)))) (bif !(getO (h16t ((x0.1,x0.2.1,()):Int×Int×Unit) ([]:List (List Int)))).2.2.1 then some ((([]:List (List Int)),(2:Int),()):List (List Int)×Int×Unit) else R.gd (okO (h18t (getO (h16t ((x0.1,x0.2.1,()):Int×Int×Unit) ([]:List (List Int)))).1)) (R.gd (Option.isSome (getO (h16t ((x0.1,x0.2.1,()):Int×Int×Unit) ([]:List (List Int)))).1=true) (R.gd (okO (h17t (Option.getD (getO (h16t ((x0.1,x0.2.1,()):Int×Int×Unit) ([]:List (List Int)))).1 zTbl) (getO (h18t (getO (h16t ((x0.1,x0.2.1,()):Int×Int×Unit) ([]:List (List Int)))).1)).1)) (some (((getO (h17t (Option.getD (getO (h16t ((x0.1,x0.2.1,()):Int×Int×Unit) ([]:List (List Int)))).1 zTbl) (getO (h18t (getO (h16t ((x0.1,x0.2.1,()):Int×Int×Unit) ([]:List (List Int)))).1)).1)).1,(0:Int),()):List (List Int)×Int×Unit)))))
def g5t (x0:Int×Int×Unit):Option (List (List Int)×Int×Unit):=b5t rkO x0
def q17:List LSh:=([]:List LSh)
def h5t (x0:Int×Int×Unit):Option (List (List Int)×Int×Unit):=b5t (rkF 200) x0
theorem q6m {n:Nat} (x0:Int×Int×Unit):LeO (b5t (rkF n) x0) (b5t rkO x0):=by
 unfold b5t
 repeat' first | with_reducible exact qag | with_reducible refine qa5 ?_ | with_reducible refine qaf ?_ ?_ | with_reducible refine qar ?_ | with_reducible refine qa6 ?_ ?_ | (refine qa7 fun s=>?_;try dsimp only)
theorem qt6 (x0:Int×Int×Unit):LeO (h5t x0) (g5t x0):=q6m x0
instance (k:Nat) (n most:Int) (b:List Int):Decidable (preS k n most b):=by unfold preS;infer_instance
def b8t (R:Rk) (x0:Int):Option (List (List Int)×Unit):=R.gd (preS (9:Nat) x0 x0 ([]:List Int)) (some ((shF (9:Nat) x0 x0 ([]:List Int),()):List (List Int)×Unit))
def g8t (x0:Int):Option (List (List Int)×Unit):=b8t rkO x0
def q1t:List LSh:=([]:List LSh)
def b10t (R:Rk) (x0:List Int):Option (Int×Int×Unit):=R.gd (List.length x0≤(1000:Nat)) (R.gd ((1:Int)::([]:List Int)=(1:Int)::([]:List Int)∧(0:Int)≤imin (imax (boxW x0) (0:Int)) (8:Int)∧imin (imax (boxW x0) (0:Int)) (8:Int)≤(8:Int)) (R.gd (List.length x0≤(1000:Nat)∧List.length (List.replicate (Int.toNat (imin (imax (boxW x0) (0:Int)) (8:Int))) (1:Int))≤(1000:Nat)) (some (((kosF x0 (List.replicate (Int.toNat (imin (imax (boxW x0) (0:Int)) (8:Int))) (1:Int))).1,(kosF x0 (List.replicate (Int.toNat (imin (imax (boxW x0) (0:Int)) (8:Int))) (1:Int))).2.1,()):Int×Int×Unit))))
def g10t (x0:List Int):Option (Int×Int×Unit):=b10t rkO x0
def qy1:List LSh:=([]:List LSh)
def b11t (R:Rk)  : Option (Bool×Unit):=R.gd (okO (h27t (((65:Int),(2:Int),()):Int×Int×Unit) ((1:Int)::(1:Int)::(0:Int)::([]:List Int)))) (R.gd (ieq (getO (h27t (((65:Int),(2:Int),()):Int×Int×Unit) ((1:Int)::(1:Int)::(0:Int)::([]:List Int)))).2.1 (0:Int)=true→ieq (getO (h27t (((65:Int),(2:Int),()):Int×Int×Unit) ((1:Int)::(1:Int)::(0:Int)::([]:List Int)))).2.1 (0:Int)=true∧ieq (getO (h27t (((65:Int),(2:Int),()):Int×Int×Unit) ((1:Int)::(1:Int)::(0:Int)::([]:List Int)))).2.1 (0:Int)=true∧okO (h13t (getO (h27t (((65:Int),(2:Int),()):Int×Int×Unit) ((1:Int)::(1:Int)::(0:Int)::([]:List Int)))).1 ((0:Int)::([]:List Int)))) (R.gd (ieq (getO (h27t (((65:Int),(2:Int),()):Int×Int×Unit) ((1:Int)::(1:Int)::(0:Int)::([]:List Int)))).2.1 (0:Int)=true→ieq (getO (h27t (((65:Int),(2:Int),()):Int×Int×Unit) ((1:Int)::(1:Int)::(0:Int)::([]:List Int)))).2.1 (0:Int)=true) (some ((bif ieq (getO (h27t (((65:Int),(2:Int),()):Int×Int×Unit) ((1:Int)::(1:Int)::(0:Int)::([]:List Int)))).2.1 (0:Int) then (getO (h13t (getO (h27t (((65:Int),(2:Int),()):Int×Int×Unit) ((1:Int)::(1:Int)::(0:Int)::([]:List Int)))).1 ((0:Int)::([]:List Int)))).1 else false,()):Bool×Unit))))
def g11t  : Option (Bool×Unit):=b11t rkO
def qw9:List LSh:=([]:List LSh)
def h8t (x0:Int):Option (List (List Int)×Unit):=b8t (rkF 200) x0
theorem q6c {n:Nat} (x0:Int):LeO (b8t (rkF n) x0) (b8t rkO x0):=by
 unfold b8t
 repeat' first | with_reducible exact qag | with_reducible refine qa5 ?_ | with_reducible refine qaf ?_ ?_ | with_reducible refine qar ?_ | with_reducible refine qa6 ?_ ?_ | (refine qa7 fun s=>?_;try dsimp only)
theorem q56 (x0:Int):LeO (h8t x0) (g8t x0):=q6c x0
def qvs:Con:=mkC 8 [.d I64] [LLI] (fun (x0:Int)=>[okO (h8t x0)]) (fun (x0:Int)=>@getO ((List (List Int)×Unit)) _ (h8t x0))
theorem q69:qvs.goal Try.prog (spS [qro 9] []) q1t [] lm30:=by
 have e:(∀ (x0:Int),okO (h8t x0)→g8t x0=some (getO (h8t x0)))=qvs.goal Try.prog (spS [qro 9] []) q1t [] lm30:=by kernel_rfl
 rw [← e];intro x0 h;exact qbm (q56 x0) h
theorem ok8t:qvs.Ok Try.prog:=Con.of_goalS mixed okN (okS (ok84 9) okS0) qvs q69
def h10t (x0:List Int):Option (Int×Int×Unit):=b10t (rkF 200) x0
theorem q31 {n:Nat} (x0:List Int):LeO (b10t (rkF n) x0) (b10t rkO x0):=by
 unfold b10t
 repeat' first | with_reducible exact qag | with_reducible refine qa5 ?_ | with_reducible refine qaf ?_ ?_ | with_reducible refine qar ?_ | with_reducible refine qa6 ?_ ?_ | (refine qa7 fun s=>?_;try dsimp only)
theorem q2o (x0:List Int):LeO (h10t x0) (g10t x0):=q31 x0
def qoy:Con:=mkC 10 [.d LI] [I64,I64] (fun (x0:List Int)=>[okO (h10t x0)]) (fun (x0:List Int)=>@getO ((Int×Int×Unit)) _ (h10t x0))
theorem q20:qoy.goal Try.prog (spOf [qkx,qwf,qq5]) qy1 [] lm30:=by
 have e:(∀ (x0:List Int),okO (h10t x0)→g10t x0=some (getO (h10t x0)))=qoy.goal Try.prog (spOf [qkx,qwf,qq5]) qy1 [] lm30:=by kernel_rfl
 rw [← e];intro x0 h;exact qbm (q2o x0) h
theorem q8l:qoy.Ok Try.prog:=Con.of_goal mixed (okC ok86 (okC ok85 (okC ok21 okN))) qoy q20
def h11t  : Option (Bool×Unit):=b11t (rkF 200)
theorem q4a {n:Nat}  : LeO (b11t (rkF n) ) (b11t rkO ):=by
 unfold b11t
 repeat' first | with_reducible exact qag | with_reducible refine qa5 ?_ | with_reducible refine qaf ?_ ?_ | with_reducible refine qar ?_ | with_reducible refine qa6 ?_ ?_ | (refine qa7 fun s=>?_;try dsimp only)
theorem q26  : LeO (h11t ) (g11t ):=q4a
def qnn:Con:=mkC 11 [] [.bool] ([okO h11t]) (@getO ((Bool×Unit)) _ h11t)
theorem q4k:qnn.goal Try.prog (spOf [qnt,qo4]) qw9 [] lm30:=by
 have e:(okO h11t→g11t  = some (getO h11t))=qnn.goal Try.prog (spOf [qnt,qo4]) qw9 [] lm30:=by kernel_rfl
 rw [← e];intro  h;exact qbm (q26 ) h
theorem q78:qnn.Ok Try.prog:=Con.of_goal mixed (okC q8i (okC q7m okN)) qnn q4k
def is5 (o:Option (List (List Int)×Int×Unit)) (l:List (List Int)):Bool:=match o with
 | some x=>eqL (eqL ieq) x.1 l && ieq x.2.1 0
 | none=>false
theorem qul {o:Option (List (List Int)×Int×Unit)} {l:List (List Int)} (h:is5 o l=true):o=some (l,0,()):=by
 match o,h with
 | some (a,b,()),h =>
  simp only [is5,wa4] at h;have e1:a=l:=qem (qem fun h=>qbx.1 h) h.1
  have e2:=qbx.1 h.2;subst e1 e2;rfl
def qv1:Con:=mkC 5 [.d GrT] [LLI,I64] (fun (g:Int×Int×Unit)=>[grP g]) (fun (g:Int×Int×Unit)=>((tabF g).2.1,(0:Int),()))
theorem qrj {Q:Int×Int×Unit→Prop} (h1:Q (65,1,())) (h2:Q (65,2,())) (h3:Q (65,3,())) (h4:Q (65,4,())):∀ g,grP g→Q g:=by
 rintro ⟨a,n,u⟩ ⟨k1,k2,k3⟩;cases u;simp only at k1 k2 k3;subst k1;have:n=1∨n=2∨n=3∨n=4:=by omega
 rcases this with rfl | rfl | rfl | rfl
 ·exact h1
 ·exact h2
 ·exact h3
 ·exact h4
theorem all1:h5t (65,1,())=some (tab1.2.1,0,()):=qul (by decide +kernel)
theorem all2:h5t (65,2,())=some (tab2.2.1,0,()):=qul (by decide +kernel)
theorem all3:h5t (65,3,())=some (tab3.2.1,0,()):=qul (by decide +kernel)
theorem all4:h5t (65,4,())=some (tab4.2.1,0,()):=qul (by decide +kernel)
theorem q59:qv1.goal Try.prog (spOf [qhr,qn8,qoo]) q17 [] lm30:=by
 have e:(∀ (g:Int×Int×Unit),grP g→g5t g=some ((tabF g).2.1,0,()))=qv1.goal Try.prog (spOf [qhr,qn8,qoo]) q17 [] lm30:=by kernel_rfl
 rw [← e];exact qrj (qt6 _ _ all1) (qt6 _ _ all2) (qt6 _ _ all3) (qt6 _ _ all4)
theorem ok5c:qv1.Ok Try.prog:=Con.of_goal mixed (okC q4n (okC q8m (okC q8h okN))) qv1 q59
def wkS (t:TblD) (w:List Int):Int:=w.foldl (fun u s=>(t.2.2.1.getD u.toNat []).getD s.toNat 0) 0
def q7d (t:TblD) (n:Nat):List Int→Int→Int
 | [],_=>0
 | v::l,b=>(if (t.2.1.getD v.toNat []).length<n then b else 0)+q7d t n l (2*b)
def qom (t:TblD) (w:List Int):Int:=q7d t (t.2.1.getD (wkS t w).toNat []).length (t.2.2.1.getD (wkS t w).toNat []) 1
def memW (w:List Int) (l:List (List Int)):Bool:=l.any (eqL ieq w)
theorem qk5 {w:List Int} {l:List (List Int)} (h:memW w l=true):w∈l:=by
 obtain ⟨x,hx,e⟩:=List.any_eq_true.1 h;rw [qem (fun h=>qbx.1 h) e];exact hx
def qvi:Con:=mkC 6 [.d GrT,.d LI] [I64,I64] (fun (g:Int×Int×Unit) (w:List Int)=>[grP g,memW w (tabF g).2.1=true]) (fun (g:Int×Int×Unit) (w:List Int)=>(qom (tabF g) w,(0:Int),()))
def is6 (o:Option (Int×Int×Unit)) (n:Int):Bool:=match o with
 | some x=>ieq x.1 n && ieq x.2.1 0
 | none=>false
theorem q6v {o:Option (Int×Int×Unit)} {n:Int} (h:is6 o n=true):o=some (n,0,()):=by
 match o,h with
 | some (a,b,()),h =>
  simp only [is6,wa4] at h;have e1:=qbx.1 h.1;have e2:=qbx.1 h.2;subst e1 e2;rfl
def falA (g:Int×Int×Unit) (l:List (List Int)):Bool:=l.all fun w=>is6 (h6t g w) (qom (tabF g) w)
theorem qpl {g:Int×Int×Unit} {l:List (List Int)} (h:falA g l=true):∀ w∈l,h6t g w=some (qom (tabF g) w,0,()):=fun w hw=>q6v (List.all_eq_true.1 h w hw)
theorem fal1:falA (65,1,()) tab1.2.1=true:=by decide +kernel
theorem fal2:falA (65,2,()) tab2.2.1=true:=by decide +kernel
theorem fal3:falA (65,3,()) tab3.2.1=true:=by decide +kernel
theorem fal4:falA (65,4,()) tab4.2.1=true:=by decide +kernel
theorem q6p:qvi.goal Try.prog (spOf [qhr,qoi]) q16 [] lm30:=by
 have e:(∀ (g:Int×Int×Unit) (w:List Int),grP g→memW w (tabF g).2.1=true→g6t g w=some (qom (tabF g) w,0,()))=qvi.goal Try.prog (spOf [qhr,qoi]) q16 [] lm30:=by kernel_rfl
 rw [← e];intro g w hg;refine qrj (Q:=fun g=>memW w (tabF g).2.1=true→g6t g w=some (qom (tabF g) w,0,())) ?_ ?_ ?_ ?_ g hg
 ·exact fun h=>quy _ _ _ (qpl fal1 w (qk5 h))
 ·exact fun h=>quy _ _ _ (qpl fal2 w (qk5 h))
 ·exact fun h=>quy _ _ _ (qpl fal3 w (qk5 h))
 ·exact fun h=>quy _ _ _ (qpl fal4 w (qk5 h))
theorem ok6c:qvi.Ok Try.prog:=Con.of_goal mixed (okC q4n (okC q79 okN)) qvi q6p
end
end Go.Top
