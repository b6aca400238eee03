/- Groups of permutations: contracts. -/
import Derived.Test.YtieimmiiaabpgaaGreatXL
import Derived.Test.YtieimmiiaabpgaaGreatXK
import Derived.Test.YtieimmiiaabpgaaGreatXB
set_option linter.unusedVariables false
set_option linter.unusedSimpArgs false
set_option maxRecDepth 100000
namespace Go.Top
open Go Go.Ab Go.Proofs Go.Schur
def q04 (x0:Int) (d2:Int×List Int×List Int×Unit):Int:=Int.tmod (wr .i64 (wr .i64 ((3:Int)+wr .i64 (Int.tmod (wr IntKind.u64 x0) (3:Int)))-d2.1)) (wr .i64 ((3:Int)+wr .i64 (Int.tmod (wr IntKind.u64 x0) (3:Int))))
def qe8 (d2:Int×List Int×List Int×Unit):Int:=(getO (h5z (List.take (List.length d2.2.1) (List.drop (0:Nat) d2.2.1)::List.take (List.length d2.2.2.1) (List.drop (0:Nat) d2.2.2.1)::([]:List (List Int))))).2.1
def qih (x0:Int):Int:=(getO (h5t (((73:Int),wr .i64 ((3:Int)+wr .i64 (Int.tmod (wr IntKind.u64 x0) (3:Int))),()):Int×Int×Unit))).2.1
def q66 (x1:Int) (d2:Int×List Int×List Int×Unit):Int:=(getO (h7z (List.take (List.length d2.2.1) (List.drop (0:Nat) d2.2.1)::List.take (List.length d2.2.2.1) (List.drop (0:Nat) d2.2.2.1)::([]:List (List Int))) (wr .i64 (Int.tmod (wr IntKind.u64 x1) (9:Int))))).1
def qpk (x1:Int) (d2:Int×List Int×List Int×Unit):Int:=(getO (h7z (List.take (List.length d2.2.1) (List.drop (0:Nat) d2.2.1)::List.take (List.length d2.2.2.1) (List.drop (0:Nat) d2.2.2.1)::([]:List (List Int))) (wr .i64 (Int.tmod (wr IntKind.u64 x1) (9:Int))))).2.1
def q69 (x0:Int):Int:=(getO (h8t (((73:Int),wr .i64 ((3:Int)+wr .i64 (Int.tmod (wr IntKind.u64 x0) (3:Int))),()):Int×Int×Unit))).2.1
def qhc (x0 x1:Int) (d2:Int×List Int×List Int×Unit):Bool:=bif bif bif !ieq (qe8 d2) (0:Int) then true else !ieq (qih x0) (0:Int) then true else !ieq (qpk x1 d2) (0:Int) then true else !ieq (q69 x0) (0:Int)
def q1q (d2:Int×List Int×List Int×Unit):Int:=(↑(List.length (getO (h5z (List.take (List.length d2.2.1) (List.drop (0:Nat) d2.2.1)::List.take (List.length d2.2.2.1) (List.drop (0:Nat) d2.2.2.1)::([]:List (List Int))))).1):Int)
def qgx (x0 x1:Int) (d2:Int×List Int×List Int×Unit):Bool:=bif qhc x0 x1 d2 then true else !ieq (q1q d2) (wr .i64 ((2:Int)*wr .i64 ((3:Int)+wr .i64 (Int.tmod (wr IntKind.u64 x0) (3:Int)))))
def q7c (x0:Int):Int:=(↑(List.length (getO (h5t (((73:Int),wr .i64 ((3:Int)+wr .i64 (Int.tmod (wr IntKind.u64 x0) (3:Int))),()):Int×Int×Unit))).1):Int)
def qew (x0 x1:Int) (d2:Int×List Int×List Int×Unit):Bool:=bif qgx x0 x1 d2 then true else !ieq (q7c x0) (wr .i64 ((2:Int)*wr .i64 ((3:Int)+wr .i64 (Int.tmod (wr IntKind.u64 x0) (3:Int)))))
def q3t (x0:Int):Int:=(↑(List.length (getO (h8t (((73:Int),wr .i64 ((3:Int)+wr .i64 (Int.tmod (wr IntKind.u64 x0) (3:Int))),()):Int×Int×Unit))).1):Int)
def q2k (x0 x1:Int) (d2:Int×List Int×List Int×Unit):Bool:=bif qew x0 x1 d2 then true else !ieq (q3t x0) (wr .i64 (wr .i64 ((3:Int)+wr .i64 (Int.tmod (wr IntKind.u64 x0) (3:Int)))+(1:Int)))
def q07 (d2:Int×List Int×List Int×Unit) (d3:Int×Int×Unit):Int:=(↑(List.length (getO (h9z (List.getD (getO (h5z (List.take (List.length d2.2.1) (List.drop (0:Nat) d2.2.1)::List.take (List.length d2.2.2.1) (List.drop (0:Nat) d2.2.2.1)::([]:List (List Int))))).1 (Int.toNat d3.2.1) ([]:List Int)))).1):Int)
def qn6 (R:Rk) (x1:Int) (d2:Int×List Int×List Int×Unit) (d3 d4:Int×Int×Unit):Option (Lp (Int×Int×Unit) (Lp (Int×Int×Unit) (Lp (Int×List Int×List Int×Unit) (Bool×Unit)))):=bif ilt d4.2.1 (q07 d2 d3) then some (Lp.go ((wr .i64 (d4.1*wr .i64 (Int.tmod (wr IntKind.u64 x1) (9:Int))),wr .i64 (d4.2.1+(1:Int)),()):Int×Int×Unit)) else some (Lp.out (Lp.go ((wr .i64 (d3.1+d4.1),wr .i64 (d3.2.1+(1:Int)),()):Int×Int×Unit)))
def qoa (x0 x1:Int) (d2:Int×List Int×List Int×Unit):Int:=wr .i64 (wr .i64 (q66 x1 d2*(2:Int))*wr .i64 ((3:Int)+wr .i64 (Int.tmod (wr IntKind.u64 x0) (3:Int))))
def b3z (R:Rk) (x0 x1:Int):Option (Bool×Unit):=R.gd ((3:Int)≠(0:Int)) (R.gd ((9:Int)≠(0:Int)) (R.gd ((0:Nat)=(0:Nat)) (R.gd ((0:Nat)=(0:Nat)) (R.wh (fun (d2:Int×List Int×List Int×Unit)=>bif ilt d2.1 (wr .i64 ((3:Int)+wr .i64 (Int.tmod (wr IntKind.u64 x0) (3:Int)))) then R.gd (wr .i64 ((3:Int)+wr .i64 (Int.tmod (wr IntKind.u64 x0) (3:Int)))≠(0:Int)) (R.gd (List.length d2.2.1≤List.length d2.2.1) (R.gd ((List.length d2.2.1+(1:Nat))*(8:Nat)≤(1099511627776:Nat)) (R.gd (wr .i64 ((3:Int)+wr .i64 (Int.tmod (wr IntKind.u64 x0) (3:Int)))≠(0:Int)) (R.gd (List.length d2.2.2.1≤List.length d2.2.2.1) (R.gd ((List.length d2.2.2.1+(1:Nat))*(8:Nat)≤(1099511627776:Nat)) (R.gd (List.length d2.2.1+(1:Nat)=List.length (List.take (List.length d2.2.1) d2.2.1++Int.tmod (wr .i64 (d2.1+(1:Int))) (wr .i64 ((3:Int)+wr .i64 (Int.tmod (wr IntKind.u64 x0) (3:Int))))::([]:List Int))) (R.gd (List.length d2.2.2.1+(1:Nat)=List.length (List.take (List.length d2.2.2.1) d2.2.2.1++q04 x0 d2::([]:List Int))) (some (Lp.go ((wr .i64 (d2.1+(1:Int)),List.take (List.length d2.2.1) d2.2.1++Int.tmod (wr .i64 (d2.1+(1:Int))) (wr .i64 ((3:Int)+wr .i64 (Int.tmod (wr IntKind.u64 x0) (3:Int))))::([]:List Int),List.take (List.length d2.2.2.1) d2.2.2.1++q04 x0 d2::([]:List Int),()):Int×List Int×List Int×Unit)))))))))) else R.gd ((0:Nat)+List.length d2.2.1≤List.length d2.2.1) (R.gd ((0:Nat)+List.length d2.2.2.1≤List.length d2.2.2.1) (R.gd (okO (h5z (List.take (List.length d2.2.1) (List.drop (0:Nat) d2.2.1)::List.take (List.length d2.2.2.1) (List.drop (0:Nat) d2.2.2.1)::([]:List (List Int))))) (R.gd (okO (h5t (((73:Int),wr .i64 ((3:Int)+wr .i64 (Int.tmod (wr IntKind.u64 x0) (3:Int))),()):Int×Int×Unit))) (R.gd (okO (h7z (List.take (List.length d2.2.1) (List.drop (0:Nat) d2.2.1)::List.take (List.length d2.2.2.1) (List.drop (0:Nat) d2.2.2.1)::([]:List (List Int))) (wr .i64 (Int.tmod (wr IntKind.u64 x1) (9:Int))))) (R.gd (okO (h8t (((73:Int),wr .i64 ((3:Int)+wr .i64 (Int.tmod (wr IntKind.u64 x0) (3:Int))),()):Int×Int×Unit))) (R.gd ((!!ieq (qe8 d2) (0:Int))=true→(!!ieq (qe8 d2) (0:Int))=true) (R.gd ((!ieq (qe8 d2) (0:Int))=false→(!!ieq (qe8 d2) (0:Int))=true) (R.gd ((!bif !ieq (qe8 d2) (0:Int) then true else !ieq (qih x0) (0:Int))=true→(!bif !ieq (qe8 d2) (0:Int) then true else !ieq (qih x0) (0:Int))=true) (R.gd ((bif !ieq (qe8 d2) (0:Int) then true else !ieq (qih x0) (0:Int))=false→(!bif !ieq (qe8 d2) (0:Int) then true else !ieq (qih x0) (0:Int))=true) (R.gd ((!bif bif !ieq (qe8 d2) (0:Int) then true else !ieq (qih x0) (0:Int) then true else !ieq (qpk x1 d2) (0:Int))=true→(!bif bif !ieq (qe8 d2) (0:Int) then true else !ieq (qih x0) (0:Int) then true else !ieq (qpk x1 d2) (0:Int))=true) (R.gd ((bif bif !ieq (qe8 d2) (0:Int) then true else !ieq (qih x0) (0:Int) then true else !ieq (qpk x1 d2) (0:Int))=false→(!bif bif !ieq (qe8 d2) (0:Int) then true else !ieq (qih x0) (0:Int) then true else !ieq (qpk x1 d2) (0:Int))=true) (R.gd ((!qhc x0 x1 d2)=true→(!qhc x0 x1 d2)=true) (R.gd ((!qhc x0 x1 d2)=true→(!qhc x0 x1 d2)=true) (R.gd ((!qhc x0 x1 d2)=true→(!qhc x0 x1 d2)=true∧(!qhc x0 x1 d2)=true) (R.gd (qhc x0 x1 d2=false→(!qhc x0 x1 d2)=true) (R.gd ((!qgx x0 x1 d2)=true→(!qgx x0 x1 d2)=true) (R.gd ((!qgx x0 x1 d2)=true→(!qgx x0 x1 d2)=true) (R.gd ((!qgx x0 x1 d2)=true→(!qgx x0 x1 d2)=true∧(!qgx x0 x1 d2)=true) (R.gd (qgx x0 x1 d2=false→(!qgx x0 x1 d2)=true) (R.gd ((!qew x0 x1 d2)=true→(!qew x0 x1 d2)=true) (R.gd ((!qew x0 x1 d2)=true→(!qew x0 x1 d2)=true) (R.gd ((!qew x0 x1 d2)=true→(!qew x0 x1 d2)=true∧(!qew x0 x1 d2)=true) (R.gd (qew x0 x1 d2=false→(!qew x0 x1 d2)=true) (bif q2k x0 x1 d2 then some (Lp.out ((false,()):Bool×Unit)) else R.wh (fun (d3:Int×Int×Unit)=>bif ilt d3.2.1 (q1q d2) then R.gd ((0:Int)≤d3.2.1∧d3.2.1<(↑(List.length (getO (h5z (List.take (List.length d2.2.1) (List.drop (0:Nat) d2.2.1)::List.take (List.length d2.2.2.1) (List.drop (0:Nat) d2.2.2.1)::([]:List (List Int))))).1):Int)) (R.gd (okO (h9z (List.getD (getO (h5z (List.take (List.length d2.2.1) (List.drop (0:Nat) d2.2.1)::List.take (List.length d2.2.2.1) (List.drop (0:Nat) d2.2.2.1)::([]:List (List Int))))).1 (Int.toNat d3.2.1) ([]:List Int)))) (R.wh (qn6 R x1 d2 d3) (((1:Int),(0:Int),()):Int×Int×Unit))) else R.gd (ieq (qoa x0 x1 d2) d3.1=true→okO h10z) (R.gd (ieq (qoa x0 x1 d2) d3.1=true→ieq (qoa x0 x1 d2) d3.1=true) (some (Lp.out (Lp.out ((bif ieq (qoa x0 x1 d2) d3.1 then (getO h10z).1 else false,()):Bool×Unit)))))) (((0:Int),(0:Int),()):Int×Int×Unit)))))))))))))))))))))))))) (((0:Int),([]:List Int),([]:List Int),()):Int×List Int×List Int×Unit)))))
noncomputable def g3z (x0 x1:Int):Option (Bool×Unit):=b3z rkO x0 x1
noncomputable def q6r:List LSh:=LSh.mk (((5,TV.slf (0) (1)):Nat×TV)::((6,TV.slf (1) (1)):Nat×TV)::((30,TV.v (Ty.int .i64)):Nat×TV)::([]:List (Nat×TV))) (TB.arr (Ty.int .i64) true::TB.arr (Ty.int .i64) true::([]:List TB))::LSh.mk (((16,TV.v (Ty.int .i64)):Nat×TV)::((113,TV.v (Ty.int .i64)):Nat×TV)::([]:List (Nat×TV))) ([]:List TB)::LSh.mk (((19,TV.v (Ty.int .i64)):Nat×TV)::((120,TV.v (Ty.int .i64)):Nat×TV)::([]:List (Nat×TV))) ([]:List TB)::([]:List LSh)
theorem qxu {n:Nat} (x1:Int) (d2:Int×List Int×List Int×Unit) (d3 d4:Int×Int×Unit):LeO (qn6 (rkF n) x1 d2 d3 d4) (qn6 rkO x1 d2 d3 d4):=by
 unfold qn6
 repeat' first | with_reducible exact qae | with_reducible apply q6u | with_reducible refine qam ?_ | with_reducible refine qad ?_ ?_ | with_reducible refine qai ?_ | with_reducible refine qao ?_ ?_ | (refine qan fun s=>?_;try dsimp only)
def h3z (x0 x1:Int):Option (Bool×Unit):=b3z (rkF 200) x0 x1
theorem q6u {n:Nat} (x0 x1:Int):LeO (b3z (rkF n) x0 x1) (b3z rkO x0 x1):=by
 unfold b3z
 repeat' first | with_reducible exact qae | with_reducible apply qxu | with_reducible refine qam ?_ | with_reducible refine qad ?_ ?_ | with_reducible refine qai ?_ | with_reducible refine qao ?_ ?_ | (refine qan fun s=>?_;try dsimp only)
theorem zez (x0 x1:Int):LeO (h3z x0 x1) (g3z x0 x1):=q6u x0 x1
theorem zgb {x y k l:Int} (h:Int.tmod (wr .u64 x) 3=Int.tmod (wr .u64 k) 3) (h':Int.tmod (wr .u64 y) 9=Int.tmod (wr .u64 l) 9):h3z x y=h3z k l:=by
 unfold h3z b3z qn6 qoa q07 q2k q3t qew q7c qgx q1q qhc q69 qpk q66 qih qe8 q04;rw [h,h']
def all9 (k:Int):Bool:=(List.range 9).all fun s=>match h3z k s with
 | some (b,())=>b
 | none=>false
theorem qu0 {k:Int} (h:all9 k=true) (s:Nat) (hs:s<9):h3z k s=some (true,()):=by
 have:=List.all_eq_true.1 h s (List.mem_range.2 hs)
 cases e:h3z k s with
 | none=>rw [e] at this;cases this
 | some y =>
  obtain ⟨b,u⟩:=y;cases u;rw [e] at this;rw [show b=true from this]
theorem a9_0:all9 0=true:=by decide +kernel
theorem a9_1:all9 1=true:=by decide +kernel
theorem a9_2:all9 2=true:=by decide +kernel
noncomputable def q32:Con:=mkC 3 [.d I64,.d I64] [.bool] (fun (x y:Int)=>[]) (fun (x y:Int)=>(true,()))
theorem zei:q32.goal Tryz.prog (spOf [qyf,qyk,qx1,qxn,qx4,qqr]) q6r [7010005,7010006] lm30:=by
 have e:(∀ (x y:Int),g3z x y=some (true,()))=q32.goal Tryz.prog (spOf [qyf,qyk,qx1,qxn,qx4,qqr]) q6r [7010005,7010006] lm30:=by kernel_rfl
 rw [← e];intro x y;obtain ⟨k,hk,h⟩:=tmN 3 (by decide) (by decide) x
 obtain ⟨l,hl,h'⟩:=tmN 9 (by decide) (by decide) y
 refine zez _ _ _ ?_;rw [zgb h h'];have:k=0∨k=1∨k=2:=by omega
 rcases this with rfl | rfl | rfl
 ·exact qu0 a9_0 l (by omega)
 ·exact qu0 a9_1 l (by omega)
 ·exact qu0 a9_2 l (by omega)
theorem ok3l:q32.Ok Tryz.prog:=Con.of_goal mixed (okC ok5z (okC ok5t (okC ok7z (okC ok8t (okC ok9z (okC zgp okN)))))) q32 zei
end Go.Top
