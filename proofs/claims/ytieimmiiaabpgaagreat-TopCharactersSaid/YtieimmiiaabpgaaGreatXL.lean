/- Groups of permutations: contracts. -/
import Derived.Test.YtieimmiiaabpgaaGreatXH
import Derived.Test.YtieimmiiaabpgaaGreatPB
set_option linter.unusedVariables false
set_option linter.unusedSimpArgs false
set_option maxRecDepth 100000
namespace Go.Top
noncomputable section
open Go Go.Ab Go.Proofs Go.Schur
instance (k:Nat) (n most:Int) (b:List Int):Decidable (preS k n most b):=by unfold preS;infer_instance
def b10z (R:Rk)  : Option (Bool×Unit):=R.gd (memG (((1:Int)::(0:Int)::([]:List Int))::([]:List (List Int))) ttab=true) (R.gd (ieq (0:Int) (0:Int)=true→ieq (0:Int) (0:Int)=true∧ieq (0:Int) (0:Int)=true) (R.gd (ieq (0:Int) (0:Int)=true→ieq (0:Int) (0:Int)=true∧ieq (0:Int) (0:Int)=true∧okO (h31z (tabG (((1:Int)::(0:Int)::([]:List Int))::([]:List (List Int)))) (((1:Int)::(1:Int)::([]:List Int))::((1:Int)::(2:Int)::([]:List Int))::([]:List (List Int))))) (R.gd (ieq (0:Int) (0:Int)=true→ieq (0:Int) (0:Int)=true) (some ((bif ieq (0:Int) (0:Int) then (getO (h31z (tabG (((1:Int)::(0:Int)::([]:List Int))::([]:List (List Int)))) (((1:Int)::(1:Int)::([]:List Int))::((1:Int)::(2:Int)::([]:List Int))::([]:List (List Int))))).1 else false,()):Bool×Unit)))))
def g10z  : Option (Bool×Unit):=b10z rkO
def q27:List LSh:=([]:List LSh)
def b20z (R:Rk) (x0:List (List Int)) (x1:List Int):Option (Int×Unit):=R.wh (fun (d2:List Int×Int×Unit)=>bif ilt d2.2.1 (↑(List.length x0):Int) then R.gd ((0:Int)≤d2.2.1∧d2.2.1<(↑(List.length x0):Int)) (R.gd (okO (h21z (List.getD x0 (Int.toNat d2.2.1) ([]:List Int)) d2.1)) (bif (getO (h21z (List.getD x0 (Int.toNat d2.2.1) ([]:List Int)) d2.1)).1 then some (Lp.out ((d2.2.1,()):Int×Unit)) else some (Lp.go ((d2.1,wr .i64 (d2.2.1+(1:Int)),()):List Int×Int×Unit)))) else some (Lp.out (((-1:Int),()):Int×Unit))) ((x1,(0:Int),()):List Int×Int×Unit)
def g20z (x0:List (List Int)) (x1:List Int):Option (Int×Unit):=b20z rkO x0 x1
def q1v:List LSh:=LSh.mk (((1,TV.fn (21) (TV.cons (TV.v (Ty.ptr (Ty.slice (Ty.int .i64)))) TV.nil)):Nat×TV)::((8,TV.v (Ty.int .i64)):Nat×TV)::([]:List (Nat×TV))) ([]:List TB)::([]:List LSh)
def b15z (R:Rk) (x0:Int):Option (List (List Int)×Unit):=R.gd (preS (9:Nat) x0 x0 ([]:List Int)) (some ((shF (9:Nat) x0 x0 ([]:List Int),()):List (List Int)×Unit))
def g15z (x0:Int):Option (List (List Int)×Unit):=b15z rkO x0
def qy8:List LSh:=([]:List LSh)
def h10z  : Option (Bool×Unit):=b10z (rkF 200)
theorem zax {n:Nat}  : LeO (b10z (rkF n) ) (b10z rkO ):=by
 unfold b10z
 repeat' first | with_reducible exact qag | with_reducible refine qap ?_ | with_reducible refine qah ?_ ?_ | with_reducible refine qaj ?_ | with_reducible refine qan ?_ ?_ | (refine qao fun s=>?_;try dsimp only)
theorem q8w  : LeO (h10z ) (g10z ):=zax
def qpv:Con:=mkC 10 [] [.bool] ([okO h10z]) (@getO ((Bool×Unit)) _ h10z)
theorem zai:qpv.goal Tryz.prog (spOf [qlu,qpi]) q27 [] lm30:=by
 have e:(okO h10z→g10z  = some (getO h10z))=qpv.goal Tryz.prog (spOf [qlu,qpi]) q27 [] lm30:=by kernel_rfl
 rw [← e];intro  h;exact qaz (q8w ) h
theorem ze9:qpv.Ok Tryz.prog:=Con.of_goal mixed (okC zc4 (okC zfq okN)) qpv zai
def h20z (x0:List (List Int)) (x1:List Int):Option (Int×Unit):=b20z (rkF 200) x0 x1
theorem zal {n:Nat} (x0:List (List Int)) (x1:List Int):LeO (b20z (rkF n) x0 x1) (b20z rkO x0 x1):=by
 unfold b20z
 repeat' first | with_reducible exact qag | with_reducible refine qap ?_ | with_reducible refine qah ?_ ?_ | with_reducible refine qaj ?_ | with_reducible refine qan ?_ ?_ | (refine qao fun s=>?_;try dsimp only)
theorem zcf (x0:List (List Int)) (x1:List Int):LeO (h20z x0 x1) (g20z x0 x1):=zal x0 x1
def qpj:Con:=mkC 20 [.d LLI,.fn 21 [.ptr LI]] [I64] (fun (x0:List (List Int)) (x1:List Int)=>[okO (h20z x0 x1)]) (fun (x0:List (List Int)) (x1:List Int)=>@getO ((Int×Unit)) _ (h20z x0 x1))
theorem q8n:qpj.goal Tryz.prog (spOf [qo3]) q1v [] lm30:=by
 have e:(∀ (x0:List (List Int)) (x1:List Int),okO (h20z x0 x1)→g20z x0 x1=some (getO (h20z x0 x1)))=qpj.goal Tryz.prog (spOf [qo3]) q1v [] lm30:=by kernel_rfl
 rw [← e];intro x0 x1 h;exact qaz (zcf x0 x1) h
theorem zfc:qpj.Ok Tryz.prog:=Con.of_goal mixed (okC zfn okN) qpj q8n
def h15z (x0:Int):Option (List (List Int)×Unit):=b15z (rkF 200) x0
theorem zb8 {n:Nat} (x0:Int):LeO (b15z (rkF n) x0) (b15z rkO x0):=by
 unfold b15z
 repeat' first | with_reducible exact qag | with_reducible refine qap ?_ | with_reducible refine qah ?_ ?_ | with_reducible refine qaj ?_ | with_reducible refine qan ?_ ?_ | (refine qao fun s=>?_;try dsimp only)
theorem q8e (x0:Int):LeO (h15z x0) (g15z x0):=zb8 x0
def qo8:Con:=mkC 15 [.d I64] [LLI] (fun (x0:Int)=>[okO (h15z x0)]) (fun (x0:Int)=>@getO ((List (List Int)×Unit)) _ (h15z x0))
theorem zcm:qo8.goal Tryz.prog (spS [qsp 9] []) qy8 [] lm30:=by
 have e:(∀ (x0:Int),okO (h15z x0)→g15z x0=some (getO (h15z x0)))=qo8.goal Tryz.prog (spS [qsp 9] []) qy8 [] lm30:=by kernel_rfl
 rw [← e];intro x0 h;exact qaz (q8e x0) h
theorem zfv:qo8.Ok Tryz.prog:=Con.of_goalS mixed okN (okS (ok84 9) okS0) qo8 zcm
end
end Go.Top
