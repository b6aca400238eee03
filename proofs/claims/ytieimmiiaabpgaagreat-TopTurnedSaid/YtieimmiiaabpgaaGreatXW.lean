/- Groups of permutations: contracts. -/
import Derived.Test.YtieimmiiaabpgaaGreatXF
import Derived.Test.YtieimmiiaabpgaaGreatXV
import Derived.Test.YtieimmiiaabpgaaGreatXE
set_option linter.unusedVariables false
set_option linter.unusedSimpArgs false
set_option maxRecDepth 100000
namespace Go.Top
open Go Go.Ab Go.Proofs Go.Schur
def qr2 (R:Rk) (x0:Option GD) (d2:List (List (List Int))×Int×Unit) (d3:Int×List (List (List Int))×Unit):Option (Lp (Int×List (List (List Int))×Unit) (Lp (List (List (List Int))×Int×Unit) (Lp (Int×List (List Int)×Unit) (List (List Int)×Unit)))):=bif ilt d3.1 (↑(List.length d2.1):Int) then R.gd ((0:Int)≤d3.1∧d3.1<(↑(List.length d2.1):Int)) (R.gd (okO (h57z x0 (getO (h56z x0 d2.2.1)).1 (List.getD d2.1 (Int.toNat d3.1) ([]:List (List Int))))) (R.gd (List.length d3.2.1≤List.length d3.2.1) (R.gd ((List.length d3.2.1+List.length (getO (h57z x0 (getO (h56z x0 d2.2.1)).1 (List.getD d2.1 (Int.toNat d3.1) ([]:List (List Int))))).1)*(24:Nat)≤(1099511627776:Nat)) (R.gd (List.length d3.2.1+List.length (getO (h57z x0 (getO (h56z x0 d2.2.1)).1 (List.getD d2.1 (Int.toNat d3.1) ([]:List (List Int))))).1=List.length (List.take (List.length d3.2.1) d3.2.1++(getO (h57z x0 (getO (h56z x0 d2.2.1)).1 (List.getD d2.1 (Int.toNat d3.1) ([]:List (List Int))))).1)) (some (Lp.go ((wr .i64 (d3.1+(1:Int)),List.take (List.length d3.2.1) d3.2.1++(getO (h57z x0 (getO (h56z x0 d2.2.1)).1 (List.getD d2.1 (Int.toNat d3.1) ([]:List (List Int))))).1,()):Int×List (List (List Int))×Unit))))))) else R.gd ((0:Nat)+List.length d3.2.1≤List.length d3.2.1) (some (Lp.out (Lp.go ((List.take (List.length d3.2.1) (List.drop (0:Nat) d3.2.1),wr .i64 (d2.2.1+(1:Int)),()):List (List (List Int))×Int×Unit))))
def b32z (R:Rk) (x0:Option GD):Option (List (List Int)×Unit):=R.gd (Option.isSome x0=true) (R.gd ((0:Nat)=(0:Nat)) (R.wh (fun (d1:Int×List (List Int)×Unit)=>bif ilt d1.1 (↑(List.length (Option.getD x0 (((0:Int),([]:List E5),([]:List (E5×Int)),([]:List (List Int)),([]:List Int),([]:List Int),(0:Int),()):GD)).2.2.2.1):Int) then R.gd (Option.isSome x0=true) (R.gd ((0:Int)≤(↑(List.length (Option.getD x0 (((0:Int),([]:List E5),([]:List (E5×Int)),([]:List (List Int)),([]:List Int),([]:List Int),(0:Int),()):GD)).2.2.2.1):Int)∧(↑(List.length (Option.getD x0 (((0:Int),([]:List E5),([]:List (E5×Int)),([]:List (List Int)),([]:List Int),([]:List Int),(0:Int),()):GD)).2.2.2.1):Int)≤(↑(List.length (Option.getD x0 (((0:Int),([]:List E5),([]:List (E5×Int)),([]:List (List Int)),([]:List Int),([]:List Int),(0:Int),()):GD)).2.2.2.1):Int)∧(↑(List.length (Option.getD x0 (((0:Int),([]:List E5),([]:List (E5×Int)),([]:List (List Int)),([]:List Int),([]:List Int),(0:Int),()):GD)).2.2.2.1):Int)*(8:Int)≤(1099511627776:Int)) (R.gd ((0:Int)≤d1.1∧d1.1<(↑(List.length (Option.getD x0 (((0:Int),([]:List E5),([]:List (E5×Int)),([]:List (List Int)),([]:List Int),([]:List Int),(0:Int),()):GD)).2.2.2.1):Int)) (R.gd ((0:Nat)+Int.toNat d1.1<List.length (List.replicate (List.length (Option.getD x0 (((0:Int),([]:List E5),([]:List (E5×Int)),([]:List (List Int)),([]:List Int),([]:List Int),(0:Int),()):GD)).2.2.2.1) (0:Int))) (R.gd ((0:Nat)+List.length (Option.getD x0 (((0:Int),([]:List E5),([]:List (E5×Int)),([]:List (List Int)),([]:List Int),([]:List Int),(0:Int),()):GD)).2.2.2.1≤List.length (List.set (List.replicate (List.length (Option.getD x0 (((0:Int),([]:List E5),([]:List (E5×Int)),([]:List (List Int)),([]:List Int),([]:List Int),(0:Int),()):GD)).2.2.2.1) (0:Int)) ((0:Nat)+Int.toNat d1.1) (1:Int))) (R.gd (List.length d1.2.1≤List.length d1.2.1) (R.gd ((List.length d1.2.1+(1:Nat))*(24:Nat)≤(1099511627776:Nat)) (R.gd (List.length d1.2.1+(1:Nat)=List.length (List.take (List.length d1.2.1) d1.2.1++List.take (List.length (Option.getD x0 (((0:Int),([]:List E5),([]:List (E5×Int)),([]:List (List Int)),([]:List Int),([]:List Int),(0:Int),()):GD)).2.2.2.1) (List.drop (0:Nat) (List.set (List.replicate (List.length (Option.getD x0 (((0:Int),([]:List E5),([]:List (E5×Int)),([]:List (List Int)),([]:List Int),([]:List Int),(0:Int),()):GD)).2.2.2.1) (0:Int)) ((0:Nat)+Int.toNat d1.1) (1:Int)))::([]:List (List Int)))) (some (Lp.go ((wr .i64 (d1.1+(1:Int)),List.take (List.length d1.2.1) d1.2.1++List.take (List.length (Option.getD x0 (((0:Int),([]:List E5),([]:List (E5×Int)),([]:List (List Int)),([]:List Int),([]:List Int),(0:Int),()):GD)).2.2.2.1) (List.drop (0:Nat) (List.set (List.replicate (List.length (Option.getD x0 (((0:Int),([]:List E5),([]:List (E5×Int)),([]:List (List Int)),([]:List Int),([]:List Int),(0:Int),()):GD)).2.2.2.1) (0:Int)) ((0:Nat)+Int.toNat d1.1) (1:Int)))::([]:List (List Int)),()):Int×List (List Int)×Unit)))))))))) else R.gd ((0:Nat)+List.length d1.2.1≤List.length d1.2.1) (R.gd (Option.isSome x0=true) (R.wh (fun (d2:List (List (List Int))×Int×Unit)=>bif ilt d2.2.1 (↑(List.length (Option.getD x0 (((0:Int),([]:List E5),([]:List (E5×Int)),([]:List (List Int)),([]:List Int),([]:List Int),(0:Int),()):GD)).2.2.2.1):Int) then R.gd (okO (h56z x0 d2.2.1)) (R.gd ((0:Nat)=(0:Nat)) (R.wh (qr2 R x0 d2) (((0:Int),([]:List (List (List Int))),()):Int×List (List (List Int))×Unit))) else R.gd ((0:Nat)=(0:Nat)) (R.wh (fun (d3:Int×List (List Int)×Unit)=>bif ilt d3.1 (↑(List.length d2.1):Int) then R.gd ((0:Int)≤d3.1∧d3.1<(↑(List.length d2.1):Int)) (R.gd ((0:Int)≤(0:Int)∧(0:Int)<(↑(List.length (List.getD d2.1 (Int.toNat d3.1) ([]:List (List Int)))):Int)) (R.gd (okO (h58z x0 (List.getD (List.getD d2.1 (Int.toNat d3.1) ([]:List (List Int))) (0:Nat) ([]:List Int)))) (R.gd (List.length d3.2.1≤List.length d3.2.1) (R.gd ((List.length d3.2.1+(1:Nat))*(24:Nat)≤(1099511627776:Nat)) (R.gd (List.length d3.2.1+(1:Nat)=List.length (List.take (List.length d3.2.1) d3.2.1++(getO (h58z x0 (List.getD (List.getD d2.1 (Int.toNat d3.1) ([]:List (List Int))) (0:Nat) ([]:List Int)))).1::([]:List (List Int)))) (some (Lp.go ((wr .i64 (d3.1+(1:Int)),List.take (List.length d3.2.1) d3.2.1++(getO (h58z x0 (List.getD (List.getD d2.1 (Int.toNat d3.1) ([]:List (List Int))) (0:Nat) ([]:List Int)))).1::([]:List (List Int)),()):Int×List (List Int)×Unit)))))))) else R.gd (List.length d3.2.1=List.length d3.2.1) (R.gd (okO (h59v d3.2.1)) (R.gd ((0:Nat)+List.length d3.2.1≤List.length (getO (h59v d3.2.1)).1) (some (Lp.out (Lp.out (Lp.out ((List.take (List.length d3.2.1) (List.drop (0:Nat) (getO (h59v d3.2.1)).1),()):List (List Int)×Unit)))))))) (((0:Int),([]:List (List Int)),()):Int×List (List Int)×Unit))) ((List.take (List.length d1.2.1) (List.drop (0:Nat) d1.2.1)::([]:List (List (List Int))),(0:Int),()):List (List (List Int))×Int×Unit)))) (((0:Int),([]:List (List Int)),()):Int×List (List Int)×Unit)))
noncomputable def g32z (x0:Option GD):Option (List (List Int)×Unit):=b32z rkO x0
noncomputable def qzf:List LSh:=LSh.mk (((3,TV.slf (0) (1)):Nat×TV)::((20,TV.v (Ty.int .i64)):Nat×TV)::([]:List (Nat×TV))) (TB.arr (Ty.slice (Ty.int .i64)) true::([]:List TB))::LSh.mk (((6,TV.v (Ty.slice (Ty.slice (Ty.slice (Ty.int .i64))))):Nat×TV)::((44,TV.v (Ty.int .i64)):Nat×TV)::([]:List (Nat×TV))) ([]:List TB)::LSh.mk (((9,TV.slf (0) (1)):Nat×TV)::((52,TV.v (Ty.int .i64)):Nat×TV)::([]:List (Nat×TV))) (TB.arr (Ty.slice (Ty.slice (Ty.int .i64))) true::([]:List TB))::LSh.mk (((12,TV.slf (0) (1)):Nat×TV)::((67,TV.v (Ty.int .i64)):Nat×TV)::([]:List (Nat×TV))) (TB.arr (Ty.slice (Ty.int .i64)) true::([]:List TB))::([]:List LSh)
theorem qxx {n:Nat} (x0:Option GD) (d2:List (List (List Int))×Int×Unit) (d3:Int×List (List (List Int))×Unit):LeO (qr2 (rkF n) x0 d2 d3) (qr2 rkO x0 d2 d3):=by
 unfold qr2
 repeat' first | with_reducible exact qae | with_reducible apply q0v | with_reducible refine qam ?_ | with_reducible refine qad ?_ ?_ | with_reducible refine qai ?_ | with_reducible refine qao ?_ ?_ | (refine qan fun s=>?_;try dsimp only)
def h32z (x0:Option GD):Option (List (List Int)×Unit):=b32z (rkF 200) x0
theorem q0v {n:Nat} (x0:Option GD):LeO (b32z (rkF n) x0) (b32z rkO x0):=by
 unfold b32z
 repeat' first | with_reducible exact qae | with_reducible apply qxx | with_reducible refine qam ?_ | with_reducible refine qad ?_ ?_ | with_reducible refine qai ?_ | with_reducible refine qao ?_ ?_ | (refine qan fun s=>?_;try dsimp only)
theorem q8f (x0:Option GD):LeO (h32z x0) (g32z x0):=q0v x0
def eqGD (x g:GD):Bool:=ieq x.1 g.1 && (eqL (deq P5) x.2.1 g.2.1 && (eqL (fun p q=>deq P5 p.1 q.1 && ieq p.2 q.2) x.2.2.1 g.2.2.1 && (eqL (eqL ieq) x.2.2.2.1 g.2.2.2.1 && (eqL ieq x.2.2.2.2.1 g.2.2.2.2.1 && (eqL ieq x.2.2.2.2.2.1 g.2.2.2.2.2.1 && ieq x.2.2.2.2.2.2.1 g.2.2.2.2.2.2.1)))))
theorem q77 {x g:GD} (h:eqGD x g=true):x=g:=by
 have:=qjo (o:=some (some x,0,())) (g:=g) (by simpa [isG,eqGD,ieq] using h)
 injection this with h1
 injection h1 with h2
 injection h2
def zds (g:GD):List (GD×List (List Int))→List (List Int)
 | []=>[]
 | p::l=>if eqGD g p.1=true then p.2 else zds g l
def gtt:List (GD×List (List Int)):=[(grp0,[[1]]),(grp1,[[1,1],[1,2]]),(grp2,[[1,1,1],[1,6,1],[2,0,6]]),(grp3,[[1,1,1,1,1],[1,36,1,1,36],[2,0,36,2,0],[3,1,0,36,36],[3,36,0,36,1]])]
def tabD (o:Option GD):List (List Int):=match o with
 | some g=>zds g gtt
 | none=>[]
def memD (o:Option GD):Bool:=match o with
 | some g=>gtt.any fun p=>eqGD g p.1
 | none=>false
theorem zcn {o:Option GD} (h:memD o=true):∃ p∈gtt,o=some p.1:=by
 cases o with
 | none=>cases h
 | some g =>
  obtain ⟨p,hp,e⟩:=List.any_eq_true.1 h;exact ⟨p,hp,congrArg some (q77 e)⟩
noncomputable def qpb:Con:=mkC 32 [.d (.optr GT)] [LLI] (fun (g:Option GD)=>[memD g=true]) (fun (g:Option GD)=>(tabD g,()))
def isC (o:Option (List (List Int)×Unit)) (l:List (List Int)):Bool:=match o with
 | some x=>eqL (eqL ieq) x.1 l
 | none=>false
theorem qvo {o:Option (List (List Int)×Unit)} {l:List (List Int)} (h:isC o l=true):o=some (l,()):=by
 match o,h with
 | some (a,()),h=>rw [eqLL (l:=a) (m:=l) h]
end Go.Top
