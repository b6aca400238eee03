/- Groups of permutations: contracts. -/
import Derived.Test.YtieimmiiaabpgaaGreatXH
import Derived.Test.YtieimmiiaabpgaaGreatPA
import Derived.Test.YtieimmiiaabpgaaGreatXB
set_option linter.unusedVariables false
set_option linter.unusedSimpArgs false
set_option maxRecDepth 100000
namespace Go.Top
open Go Go.Ab Go.Proofs Go.Schur
instance (k:Nat) (n most:Int) (b:List Int):Decidable (preS k n most b):=by unfold preS;infer_instance
def b10z (R:Rk)  : Option (Bool×Unit):=R.gd (memG (((1:Int)::(0:Int)::([]:List Int))::([]:List (List Int))) ttab=true) (R.gd (ieq (0:Int) (0:Int)=true→ieq (0:Int) (0:Int)=true∧ieq (0:Int) (0:Int)=true) (R.gd (ieq (0:Int) (0:Int)=true→ieq (0:Int) (0:Int)=true∧ieq (0:Int) (0:Int)=true∧okO (h31z (tabG (((1:Int)::(0:Int)::([]:List Int))::([]:List (List Int)))) (((1:Int)::(1:Int)::([]:List Int))::((1:Int)::(2:Int)::([]:List Int))::([]:List (List Int))))) (R.gd (ieq (0:Int) (0:Int)=true→ieq (0:Int) (0:Int)=true) (some ((bif ieq (0:Int) (0:Int) then (getO (h31z (tabG (((1:Int)::(0:Int)::([]:List Int))::([]:List (List Int)))) (((1:Int)::(1:Int)::([]:List Int))::((1:Int)::(2:Int)::([]:List Int))::([]:List (List Int))))).1 else false,()):Bool×Unit)))))
noncomputable def g10z  : Option (Bool×Unit):=b10z rkO
noncomputable def q2q:List LSh:=([]:List LSh)
def h10z  : Option (Bool×Unit):=b10z (rkF 200)
theorem zc1 {n:Nat}  : LeO (b10z (rkF n) ) (b10z rkO ):=by
 unfold b10z
 repeat' first | with_reducible exact qae | with_reducible refine qam ?_ | with_reducible refine qad ?_ ?_ | with_reducible refine qai ?_ | with_reducible refine qao ?_ ?_ | (refine qan fun s=>?_;try dsimp only)
theorem zbn  : LeO (h10z ) (g10z ):=zc1
noncomputable def qqr:Con:=mkC 10 [] [.bool] ([okO h10z]) (@getO ((Bool×Unit)) _ h10z)
theorem zdc:qqr.goal Tryz.prog (spOf [qqk,qp1]) q2q [] lm30:=by
 have e:(okO h10z→g10z  = some (getO h10z))=qqr.goal Tryz.prog (spOf [qqk,qp1]) q2q [] lm30:=by kernel_rfl
 rw [← e];intro  h;exact qaq (zbn ) h
theorem zgp:qqr.Ok Tryz.prog:=Con.of_goal mixed (okC zf2 (okC zgr okN)) qqr zdc
end Go.Top
