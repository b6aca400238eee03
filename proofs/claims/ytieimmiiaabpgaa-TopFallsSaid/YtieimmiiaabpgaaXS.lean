/- Groups of mirrors: contracts. -/
import Derived.Test.YtieimmiiaabpgaaXI
import Derived.Test.YtieimmiiaabpgaaXQ
import Derived.Test.YtieimmiiaabpgaaXL
set_option linter.unusedVariables false
set_option linter.unusedSimpArgs false
set_option maxRecDepth 100000
namespace Go.Top
open Go Go.Ab Go.Proofs Go.Schur
def b40t (R:Rk) (x0:Option TblD) (x1:List Int):Option (List Int×Unit):=R.gd (List.length x1=List.length x1) (R.gd (okO (h54p x1 x0)) (R.gd (List.length x1=List.length (getO (h54p x1 x0)).1) (some (((getO (h54p x1 x0)).1,()):List Int×Unit))))
noncomputable def g40t (x0:Option TblD) (x1:List Int):Option (List Int×Unit):=b40t rkO x0 x1
noncomputable def qzc:List LSh:=([]:List LSh)
def h40t (x0:Option TblD) (x1:List Int):Option (List Int×Unit):=b40t (rkF 200) x0 x1
theorem q42 {n:Nat} (x0:Option TblD) (x1:List Int):LeO (b40t (rkF n) x0 x1) (b40t rkO x0 x1):=by
 unfold b40t
 repeat' first | with_reducible exact qag | with_reducible refine qa5 ?_ | with_reducible refine qaf ?_ ?_ | with_reducible refine qar ?_ | with_reducible refine qa6 ?_ ?_ | (refine qa7 fun s=>?_;try dsimp only)
theorem q3c (x0:Option TblD) (x1:List Int):LeO (h40t x0 x1) (g40t x0 x1):=q42 x0 x1
noncomputable def qnl:SCon:=mkS 40 [.v (.optr TblT),.slf 0 1] [.arr I64 true] [.slf 0 1] [.arr I64 true] (fun (x0:Option TblD) (x1:List Int)=>[okO (h40t x0 x1)]) (fun (x0:Option TblD) (x1:List Int)=>@getO ((List Int×Unit)) _ (h40t x0 x1))
theorem q2k:qnl.goal Try.prog (spS [qnx] []) qzc [] lm30:=by
 have e:(∀ (x0:Option TblD) (x1:List Int),okO (h40t x0 x1)→g40t x0 x1=some (getO (h40t x0 x1)))=qnl.goal Try.prog (spS [qnx] []) qzc [] lm30:=by kernel_rfl
 rw [← e];intro x0 x1 h;exact qbm (q3c x0 x1) h
theorem q7l:qnl.Ok Try.prog:=SCon.of_goal mixed okN (okS q74 okS0) qnl q2k
def b18t (R:Rk) (x0:Option TblD):Option (List Int×Unit):=R.gd (Option.isSome x0=true) (R.gd ((0:Nat)=(0:Nat)) (R.wh (fun (d1:Int×List Int×Unit)=>bif ilt d1.1 (↑(List.length (Option.getD x0 zTbl).2.1):Int) then R.gd (List.length d1.2.1≤List.length d1.2.1) (R.gd ((List.length d1.2.1+(1:Nat))*(8:Nat)≤(1099511627776:Nat)) (R.gd (List.length d1.2.1+(1:Nat)=List.length (List.take (List.length d1.2.1) d1.2.1++d1.1::([]:List Int))) (some (Lp.go ((wr .i64 (d1.1+(1:Int)),List.take (List.length d1.2.1) d1.2.1++d1.1::([]:List Int),()):Int×List Int×Unit))))) else R.gd (List.length d1.2.1=List.length d1.2.1) (R.gd (okO (h40t x0 d1.2.1)) (R.gd ((0:Nat)+List.length (getO (h40t x0 d1.2.1)).1≤List.length (getO (h40t x0 d1.2.1)).1) (some (Lp.out ((List.take (List.length (getO (h40t x0 d1.2.1)).1) (List.drop (0:Nat) (getO (h40t x0 d1.2.1)).1),()):List Int×Unit)))))) (((0:Int),([]:List Int),()):Int×List Int×Unit)))
noncomputable def g18t (x0:Option TblD):Option (List Int×Unit):=b18t rkO x0
noncomputable def qwi:List LSh:=LSh.mk (((3,TV.slf (0) (1)):Nat×TV)::((10,TV.v (Ty.int .i64)):Nat×TV)::([]:List (Nat×TV))) (TB.arr (Ty.int .i64) true::([]:List TB))::([]:List LSh)
def h18t (x0:Option TblD):Option (List Int×Unit):=b18t (rkF 200) x0
theorem q2h {n:Nat} (x0:Option TblD):LeO (b18t (rkF n) x0) (b18t rkO x0):=by
 unfold b18t
 repeat' first | with_reducible exact qag | with_reducible refine qa5 ?_ | with_reducible refine qaf ?_ ?_ | with_reducible refine qar ?_ | with_reducible refine qa6 ?_ ?_ | (refine qa7 fun s=>?_;try dsimp only)
theorem q45 (x0:Option TblD):LeO (h18t x0) (g18t x0):=q2h x0
noncomputable def qoo:Con:=mkC 18 [.d (.optr TblT)] [LI] (fun (x0:Option TblD)=>[okO (h18t x0)]) (fun (x0:Option TblD)=>@getO ((List Int×Unit)) _ (h18t x0))
theorem q5o:qoo.goal Try.prog (spS [qnl] []) qwi [] lm30:=by
 have e:(∀ (x0:Option TblD),okO (h18t x0)→g18t x0=some (getO (h18t x0)))=qoo.goal Try.prog (spS [qnl] []) qwi [] lm30:=by kernel_rfl
 rw [← e];intro x0 h;exact qbm (q45 x0) h
theorem q8h:qoo.Ok Try.prog:=Con.of_goalS mixed okN (okS q7l okS0) qoo q5o
end Go.Top
