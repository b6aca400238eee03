/- Groups of mirrors: contracts. -/
import Derived.Test.YtieimmiiaabpgaaGreatXQ
set_option linter.unusedVariables false
set_option linter.unusedSimpArgs false
set_option maxRecDepth 100000
namespace Go.Top
noncomputable section
open Go Go.Ab Go.Proofs Go.Schur
def b40t (R:Rk) (x0:Option TblD) (x1:List Int):Option (List Int×Unit):=R.gd (List.length x1=List.length x1) (R.gd (okO (h54p x1 x0)) (R.gd (List.length x1=List.length (getO (h54p x1 x0)).1) (some (((getO (h54p x1 x0)).1,()):List Int×Unit))))
def g40t (x0:Option TblD) (x1:List Int):Option (List Int×Unit):=b40t rkO x0 x1
def q1j:List LSh:=([]:List LSh)
def h40t (x0:Option TblD) (x1:List Int):Option (List Int×Unit):=b40t (rkF 200) x0 x1
theorem q8z {n:Nat} (x0:Option TblD) (x1:List Int):LeO (b40t (rkF n) x0 x1) (b40t rkO x0 x1):=by
 unfold b40t
 repeat' first | with_reducible exact qae | with_reducible refine qam ?_ | with_reducible refine qad ?_ ?_ | with_reducible refine qai ?_ | with_reducible refine qao ?_ ?_ | (refine qan fun s=>?_;try dsimp only)
theorem q82 (x0:Option TblD) (x1:List Int):LeO (h40t x0 x1) (g40t x0 x1):=q8z x0 x1
def qou:SCon:=mkS 53 [.v (.optr TblT),.slf 0 1] [.arr I64 true] [.slf 0 1] [.arr I64 true] (fun (x0:Option TblD) (x1:List Int)=>[okO (h40t x0 x1)]) (fun (x0:Option TblD) (x1:List Int)=>@getO ((List Int×Unit)) _ (h40t x0 x1))
theorem q9p:qou.goal Tryz.prog (spS [qpf] []) q1j [] lm30:=by
 have e:(∀ (x0:Option TblD) (x1:List Int),okO (h40t x0 x1)→g40t x0 x1=some (getO (h40t x0 x1)))=qou.goal Tryz.prog (spS [qpf] []) q1j [] lm30:=by kernel_rfl
 rw [← e];intro x0 x1 h;exact qaq (q82 x0 x1) h
theorem zfv:qou.Ok Tryz.prog:=SCon.of_goal mixed okN (okS zgn okS0) qou q9p
def b18t (R:Rk) (x0:Option TblD):Option (List Int×Unit):=R.gd (Option.isSome x0=true) (R.gd ((0:Nat)=(0:Nat)) (R.wh (fun (d1:Int×List Int×Unit)=>bif ilt d1.1 (↑(List.length (Option.getD x0 zTbl).2.1):Int) then R.gd (List.length d1.2.1≤List.length d1.2.1) (R.gd ((List.length d1.2.1+(1:Nat))*(8:Nat)≤(1099511627776:Nat)) (R.gd (List.length d1.2.1+(1:Nat)=List.length (List.take (List.length d1.2.1) d1.2.1++d1.1::([]:List Int))) (some (Lp.go ((wr .i64 (d1.1+(1:Int)),List.take (List.length d1.2.1) d1.2.1++d1.1::([]:List Int),()):Int×List Int×Unit))))) else R.gd (List.length d1.2.1=List.length d1.2.1) (R.gd (okO (h40t x0 d1.2.1)) (R.gd ((0:Nat)+List.length (getO (h40t x0 d1.2.1)).1≤List.length (getO (h40t x0 d1.2.1)).1) (some (Lp.out ((List.take (List.length (getO (h40t x0 d1.2.1)).1) (List.drop (0:Nat) (getO (h40t x0 d1.2.1)).1),()):List Int×Unit)))))) (((0:Int),([]:List Int),()):Int×List Int×Unit)))
def g18t (x0:Option TblD):Option (List Int×Unit):=b18t rkO x0
def qz0:List LSh:=LSh.mk (((3,TV.slf (0) (1)):Nat×TV)::((10,TV.v (Ty.int .i64)):Nat×TV)::([]:List (Nat×TV))) (TB.arr (Ty.int .i64) true::([]:List TB))::([]:List LSh)
def h18t (x0:Option TblD):Option (List Int×Unit):=b18t (rkF 200) x0
theorem q9j {n:Nat} (x0:Option TblD):LeO (b18t (rkF n) x0) (b18t rkO x0):=by
 unfold b18t
 repeat' first | with_reducible exact qae | with_reducible refine qam ?_ | with_reducible refine qad ?_ ?_ | with_reducible refine qai ?_ | with_reducible refine qao ?_ ?_ | (refine qan fun s=>?_;try dsimp only)
theorem q94 (x0:Option TblD):LeO (h18t x0) (g18t x0):=q9j x0
def qlo:Con:=mkC 26 [.d (.optr TblT)] [LI] (fun (x0:Option TblD)=>[okO (h18t x0)]) (fun (x0:Option TblD)=>@getO ((List Int×Unit)) _ (h18t x0))
theorem zcy:qlo.goal Tryz.prog (spS [qou] []) qz0 [] lm30:=by
 have e:(∀ (x0:Option TblD),okO (h18t x0)→g18t x0=some (getO (h18t x0)))=qlo.goal Tryz.prog (spS [qou] []) qz0 [] lm30:=by kernel_rfl
 rw [← e];intro x0 h;exact qaq (q94 x0) h
theorem zfa:qlo.Ok Tryz.prog:=Con.of_goalS mixed okN (okS zfv okS0) qlo zcy
def b5t (R:Rk) (x0:Int×Int×Unit):Option (List (List Int)×Int×Unit):=R.gd (okO (h16t ((x0.1,x0.2.1,()):Int×Int×Unit) ([]:List (List Int)))) (bif !(getO (h16t ((x0.1,x0.2.1,()):Int×Int×Unit) ([]:List (List Int)))).2.2.1 then some ((([]:List (List Int)),(2:Int),()):List (List Int)×Int×Unit) else R.gd (okO (h18t (getO (h16t ((x0.1,x0.2.1,()):Int×Int×Unit) ([]:List (List Int)))).1)) (R.gd (Option.isSome (getO (h16t ((x0.1,x0.2.1,()):Int×Int×Unit) ([]:List (List Int)))).1=true) (R.gd (okO (h17t (Option.getD (getO (h16t ((x0.1,x0.2.1,()):Int×Int×Unit) ([]:List (List Int)))).1 zTbl) (getO (h18t (getO (h16t ((x0.1,x0.2.1,()):Int×Int×Unit) ([]:List (List Int)))).1)).1)) (some (((getO (h17t (Option.getD (getO (h16t ((x0.1,x0.2.1,()):Int×Int×Unit) ([]:List (List Int)))).1 zTbl) (getO (h18t (getO (h16t ((x0.1,x0.2.1,()):Int×Int×Unit) ([]:List (List Int)))).1)).1)).1,(0:Int),()):List (List Int)×Int×Unit)))))
def g5t (x0:Int×Int×Unit):Option (List (List Int)×Int×Unit):=b5t rkO x0
def q7g:List LSh:=([]:List LSh)
def zd7 (x0:Int×Int×Unit):Bool:=(getO (h16t ((x0.1,x0.2.1,()):Int×Int×Unit) ([]:List (List Int)))).2.2.1
def zfj (x0:Int×Int×Unit):Int:=(↑(List.length (getO (h18t (getO (h16t ((x0.1,x0.2.1,()):Int×Int×Unit) ([]:List (List Int)))).1)).1):Int)
def qw9 (x0:Int×Int×Unit) (d1:Int×List Int×Unit):Int:=List.getD (getO (h18t (getO (h16t ((x0.1,x0.2.1,()):Int×Int×Unit) ([]:List (List Int)))).1)).1 (Int.toNat d1.1) (0:Int)
def qdj (x0:Int×Int×Unit) (d1:Int×List Int×Unit):Int:=(getO (h41t (Option.getD (getO (h16t ((x0.1,x0.2.1,()):Int×Int×Unit) ([]:List (List Int)))).1 zTbl) (qw9 x0 d1))).1
def q6s (x0:Int×Int×Unit) (d1:Int×List Int×Unit):Int:=List.getD (List.take (List.length d1.2.1) d1.2.1++(0:Int)::([]:List Int)) ((0:Nat)+Int.toNat (qdj x0 d1)) (0:Int)
def b8t (R:Rk) (x0:Int×Int×Unit):Option (List Int×Int×Unit):=R.gd (okO (h16t ((x0.1,x0.2.1,()):Int×Int×Unit) ([]:List (List Int)))) (bif !zd7 x0 then some ((([]:List Int),(2:Int),()):List Int×Int×Unit) else R.gd (okO (h18t (getO (h16t ((x0.1,x0.2.1,()):Int×Int×Unit) ([]:List (List Int)))).1)) (R.gd ((0:Nat)=(0:Nat)) (R.wh (fun (d1:Int×List Int×Unit)=>bif ilt d1.1 (zfj x0) then R.gd ((0:Int)≤d1.1∧d1.1<(↑(List.length (getO (h18t (getO (h16t ((x0.1,x0.2.1,()):Int×Int×Unit) ([]:List (List Int)))).1)).1):Int)) (R.gd (Option.isSome (getO (h16t ((x0.1,x0.2.1,()):Int×Int×Unit) ([]:List (List Int)))).1=true) (R.gd (okO (h41t (Option.getD (getO (h16t ((x0.1,x0.2.1,()):Int×Int×Unit) ([]:List (List Int)))).1 zTbl) (qw9 x0 d1))) (bif ieq (qdj x0 d1) (↑(List.length d1.2.1):Int) then R.gd (List.length d1.2.1≤List.length d1.2.1) (R.gd ((List.length d1.2.1+(1:Nat))*(8:Nat)≤(1099511627776:Nat)) (R.gd (Option.isSome (getO (h16t ((x0.1,x0.2.1,()):Int×Int×Unit) ([]:List (List Int)))).1=true) (R.gd (okO (h41t (Option.getD (getO (h16t ((x0.1,x0.2.1,()):Int×Int×Unit) ([]:List (List Int)))).1 zTbl) (qw9 x0 d1))) (R.gd ((0:Int)≤qdj x0 d1∧qdj x0 d1<(↑(List.length d1.2.1+(1:Nat)):Int)) (R.gd ((0:Nat)+Int.toNat (qdj x0 d1)<List.length (List.take (List.length d1.2.1) d1.2.1++(0:Int)::([]:List Int))) (R.gd ((0:Int)≤qdj x0 d1∧qdj x0 d1<(↑(List.length d1.2.1+(1:Nat)):Int)) (R.gd ((0:Nat)+Int.toNat (qdj x0 d1)<List.length (List.take (List.length d1.2.1) d1.2.1++(0:Int)::([]:List Int))) (R.gd (List.length d1.2.1+(1:Nat)=List.length (List.set (List.take (List.length d1.2.1) d1.2.1++(0:Int)::([]:List Int)) ((0:Nat)+Int.toNat (qdj x0 d1)) (wr .i64 (q6s x0 d1+(1:Int))))) (some (Lp.go ((wr .i64 (d1.1+(1:Int)),List.set (List.take (List.length d1.2.1) d1.2.1++(0:Int)::([]:List Int)) ((0:Nat)+Int.toNat (qdj x0 d1)) (wr .i64 (q6s x0 d1+(1:Int))),()):Int×List Int×Unit))))))))))) else R.gd (Option.isSome (getO (h16t ((x0.1,x0.2.1,()):Int×Int×Unit) ([]:List (List Int)))).1=true) (R.gd (okO (h41t (Option.getD (getO (h16t ((x0.1,x0.2.1,()):Int×Int×Unit) ([]:List (List Int)))).1 zTbl) (qw9 x0 d1))) (R.gd ((0:Int)≤qdj x0 d1∧qdj x0 d1<(↑(List.length d1.2.1):Int)) (R.gd ((0:Nat)+Int.toNat (qdj x0 d1)<List.length d1.2.1) (R.gd ((0:Int)≤qdj x0 d1∧qdj x0 d1<(↑(List.length d1.2.1):Int)) (R.gd ((0:Nat)+Int.toNat (qdj x0 d1)<List.length d1.2.1) (R.gd (List.length d1.2.1=List.length (List.set d1.2.1 ((0:Nat)+Int.toNat (qdj x0 d1)) (wr .i64 (List.getD d1.2.1 ((0:Nat)+Int.toNat (qdj x0 d1)) (0:Int)+(1:Int))))) (some (Lp.go ((wr .i64 (d1.1+(1:Int)),List.set d1.2.1 ((0:Nat)+Int.toNat (qdj x0 d1)) (wr .i64 (List.getD d1.2.1 ((0:Nat)+Int.toNat (qdj x0 d1)) (0:Int)+(1:Int))),()):Int×List Int×Unit)))))))))))) else R.gd ((0:Nat)+List.length d1.2.1≤List.length d1.2.1) (some (Lp.out ((List.take (List.length d1.2.1) (List.drop (0:Nat) d1.2.1),(0:Int),()):List Int×Int×Unit)))) (((0:Int),([]:List Int),()):Int×List Int×Unit))))
def g8t (x0:Int×Int×Unit):Option (List Int×Int×Unit):=b8t rkO x0
def q7h:List LSh:=LSh.mk (((7,TV.slf (0) (1)):Nat×TV)::((21,TV.v (Ty.int .i64)):Nat×TV)::([]:List (Nat×TV))) (TB.arr (Ty.int .i64) true::([]:List TB))::([]:List LSh)
def h5t (x0:Int×Int×Unit):Option (List (List Int)×Int×Unit):=b5t (rkF 200) x0
theorem zef {n:Nat} (x0:Int×Int×Unit):LeO (b5t (rkF n) x0) (b5t rkO x0):=by
 unfold b5t
 repeat' first | with_reducible exact qae | with_reducible refine qam ?_ | with_reducible refine qad ?_ ?_ | with_reducible refine qai ?_ | with_reducible refine qao ?_ ?_ | (refine qan fun s=>?_;try dsimp only)
theorem zd0 (x0:Int×Int×Unit):LeO (h5t x0) (g5t x0):=zef x0
def qyk:Con:=mkC 6 [.d GrT] [LLI,I64] (fun (x0:Int×Int×Unit)=>[okO (h5t x0)]) (fun (x0:Int×Int×Unit)=>@getO ((List (List Int)×Int×Unit)) _ (h5t x0))
theorem zer:qyk.goal Tryz.prog (spOf [qls,qos,qlo]) q7g [] lm30:=by
 have e:(∀ (x0:Int×Int×Unit),okO (h5t x0)→g5t x0=some (getO (h5t x0)))=qyk.goal Tryz.prog (spOf [qls,qos,qlo]) q7g [] lm30:=by kernel_rfl
 rw [← e];intro x0 h;exact qaq (zd0 x0) h
theorem ok5t:qyk.Ok Tryz.prog:=Con.of_goal mixed (okC zff (okC zfu (okC zfa okN))) qyk zer
def h8t (x0:Int×Int×Unit):Option (List Int×Int×Unit):=b8t (rkF 200) x0
theorem zeg {n:Nat} (x0:Int×Int×Unit):LeO (b8t (rkF n) x0) (b8t rkO x0):=by
 unfold b8t
 repeat' first | with_reducible exact qae | with_reducible refine qam ?_ | with_reducible refine qad ?_ ?_ | with_reducible refine qai ?_ | with_reducible refine qao ?_ ?_ | (refine qan fun s=>?_;try dsimp only)
theorem zea (x0:Int×Int×Unit):LeO (h8t x0) (g8t x0):=zeg x0
def qxn:Con:=mkC 8 [.d GrT] [LI,I64] (fun (x0:Int×Int×Unit)=>[okO (h8t x0)]) (fun (x0:Int×Int×Unit)=>@getO ((List Int×Int×Unit)) _ (h8t x0))
theorem zfr:qxn.goal Tryz.prog (spOf [qls,qlq,qlo]) q7h [] lm30:=by
 have e:(∀ (x0:Int×Int×Unit),okO (h8t x0)→g8t x0=some (getO (h8t x0)))=qxn.goal Tryz.prog (spOf [qls,qlq,qlo]) q7h [] lm30:=by kernel_rfl
 rw [← e];intro x0 h;exact qaq (zea x0) h
theorem ok8t:qxn.Ok Tryz.prog:=Con.of_goal mixed (okC zff (okC zdz (okC zfa okN))) qxn zfr
end
end Go.Top
