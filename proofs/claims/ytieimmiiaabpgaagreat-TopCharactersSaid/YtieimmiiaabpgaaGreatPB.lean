/- Characters: contracts,at this program. -/
import Derived.Test.YtieimmiiaabpgaaGreatPA
import Derived.Test.YtieimmiiaabpgaaGreatXB
set_option maxRecDepth 100000
set_option linter.unusedVariables false
set_option linter.unusedSimpArgs false
namespace Go.Schur
open Go Go.Ab Go.Proofs
theorem q02 {S X:Type} {step:S→Option (Lp S X)} {s0:S} (st:Nat→S) (n:Nat) (x:X) (h0:st 0=s0) (hgo:∀ i,i<n→step (st i)=some (.go (st (i+1)))) (hout:step (st n)=some (.out x)):qb0 step s0=some x:=by
 rw [← h0];exact qot st n x hgo hout
namespace preM
variable {n:Nat} {inner outer left:List Int} {most:Int} {nul:Bool}
end preM
open Go Go.Ab Go.Proofs
theorem qlg {l:List Int}:qa7 l=true↔l.length≤8∧(∀ i,i<l.length→qkq l i=true)∧l.sum≤8:=by
 simp [qa7,and_assoc]
theorem qji {l:List Int} {i:Nat}:rowF l (i:Int)=l.getD i 0:=by
 have:¬ (i:Int)<0:=by omega
 simp [rowF,this]
theorem q3r {l:List Int} (h:qa7 l=true) (i:Nat):0≤rowF l i∧rowF l i≤8∧rowF l (i+1:Nat)≤rowF l i:=by
 have h:=(qlg.1 h).2.1;have hget:∀ i,l.length≤i→l.getD i 0=0:=fun i hi=>by simp [waa,wac hi]
 rw [qji,qji];have h1:0≤l.getD i 0∧l.getD i 0≤8:=by
  by_cases hi:i<l.length
  ·have:=(qfc.1 (h i hi)).1;omega
  ·rw [hget i (by omega)];omega
 refine ⟨h1.1,h1.2,?_⟩
 by_cases hi:i+1<l.length
 ·have:=(qfc.1 (h (i+1) hi)).2;simpa using this
 ·rw [hget (i+1) (by omega)];omega
theorem q0r {l:List Int} (h:qa7 l=true):∀ x∈l,1≤x∧x≤8:=fun x hx=>by
 obtain ⟨i,hi,rfl⟩:=List.getElem_of_mem hx;have:=(qfc.1 ((qlg.1 h).2.1 i hi)).1;rw [waa,wab hi] at this;simpa using this
theorem q11:∀ {m:List Int},(∀ x∈m,0≤x)→(sumN m:Int)=m.sum
 | [],_=>rfl
 | a::m,h=>by
  have h1:=q11 (m:=m) (fun x hx=>h x (by simp [hx]))
  have h2:=h a (by simp)
  simp only [sumN,wbh,List.sum_cons] at h1 ⊢;omega
theorem qwe {l:List Int} {j:Nat} (h:j<l.length):l.getD j 0∈l:=by
 rw [waa,wab h];exact waq h
theorem q55 {lo hi v:Nat}:v∈upTo lo hi↔lo≤v∧v≤hi:=by
 unfold upTo;rw [List.mem_map];constructor
 ·rintro ⟨x,hx,rfl⟩;have:=List.mem_range.1 hx;omega
 ·rintro ⟨h1,h2⟩;exact ⟨v-lo,List.mem_range.2 (by omega),by omega⟩
def toI (l:List Nat):List Int:=l.map fun (n:Nat)=>(n:Int)
theorem qva {l:List Nat} {i:Nat}:(toI l).getD i 0=(l.getD i 0:Nat):=by
 unfold toI;rw [waa,wap,waa];cases l[i]?<;>rfl
theorem qsd:∀ {l:List Nat} {f n most:Nat},(∀ x∈l,1≤x)→Dec l→l.headD 0≤most→l.sum=n→n≤f→l∈qq3 f n most
 | [],f,n,most,_,_,_,hs,hf=>by
  simp at hs;subst hs;cases f<;>simp [qq3]
 | a::l,f,n,most,h1,hd,hm,hs,hf=>by
  have ha:=h1 a (by simp)
  simp only [List.sum_cons] at hs
  cases f with
  | zero=>omega
  | succ f =>
   rw [qq3,if_neg (by omega),List.mem_flatMap]
   simp only [List.headD_cons] at hm;refine ⟨a,q55.2 ⟨ha,by omega⟩,List.mem_map.2 ⟨l,?_,rfl⟩⟩
   refine qsd (fun x hx=>h1 x (by simp [hx])) (fun i=>by have:=hd (i+1);simpa using this) ?_ (by omega) (by omega)
   have:=hd 0
   cases l with
   | nil=>simp
   | cons b l=>simpa using this
theorem q2i {l:List Int} (h:∀ x∈l,0≤x):toI (l.map Int.toNat)=l:=by
 unfold toI;rw [List.map_map];refine Eq.trans (List.map_congr_left fun x hx=>?_) (List.map_id l)
 have:=h x hx;simp;omega
theorem qf5 {l:List Int} (h:qa7 l=true):∃ p∈allP,l=toI p∧Small8 p∧(∀ x∈p,1≤x)∧p.sum≤8:=by
 have h8:=q0r h;have hl:=qlg.1 h;have e:=q2i (l:=l) (fun x hx=>by have:=h8 x hx;omega)
 have hrow:=q3r h;have hget:∀ i,((l.map Int.toNat).getD i 0:Int)=l.getD i 0:=fun i=>by rw [← qva,e]
 have hsum:((l.map Int.toNat).sum:Int)=l.sum:=q11 (fun x hx=>by have:=h8 x hx;omega)
 have hd:Dec (l.map Int.toNat):=fun i=>by
  have:=(hrow i).2.2;rw [qji,qji,← hget,← hget] at this;omega
 have hp:∀ x∈l.map Int.toNat,1≤x:=fun x hx=>by
  obtain ⟨y,hy,rfl⟩:=List.mem_map.1 hx;have:=h8 y hy;omega
 have hs8:(l.map Int.toNat).sum≤8:=by have:=hl.2.2;omega
 refine ⟨l.map Int.toNat,?_,e.symm,⟨hd,by simpa using hl.1,fun i=>?_⟩,hp,hs8⟩
 ·refine List.mem_flatMap.2 ⟨(l.map Int.toNat).sum,List.mem_range.2 (by omega),qsd hp hd ?_ rfl (wae _)⟩
  cases hl:l.map Int.toNat with
  | nil=>simp
  | cons a t=>simp
 ·have:=(hrow i).2.1;rw [qji,← hget] at this;omega
theorem q3q {P:List Int→Prop} (h:∀ p∈allP,P (toI p)) {l:List Int} (hl:qa7 l=true):P l:=by
 obtain ⟨p,hp,rfl,_⟩:=qf5 hl;exact h p hp
theorem qy0 {l:List Nat}:∀ n∈l,n≤l.sum:=by
 induction l with
 | nil=>intro n hn;cases hn
 | cons a l ih =>
  intro n hn
  rcases List.mem_cons.1 hn with rfl | hn
  ·simp
  ·have:=ih n hn;simp only [List.sum_cons];omega
theorem q9r {p:List Nat}:(toI p).sum=(p.sum:Nat):=by
 induction p with
 | nil=>rfl
 | cons a p ih=>simp only [toI,wbh,List.sum_cons] at ih ⊢;omega
theorem q8p {p:List Nat} (hl:p.length≤8) (h:p.sum≤8):boxW (toI p)=(p.sum:Nat):=by
 rw [qv9 (fun x hx=>by obtain ⟨n,hn,rfl⟩:=List.mem_map.1 hx;have:=qy0 n hn;omega) (by simp [toI];omega),q9r]
def qa0 (l:List Int):List Int:=(List.range l.length).map fun (i:Nat)=>l.getD i 0+l.length-1-i
def ofF (b:List Int):List Int:=((List.range b.length).reverse.map fun (k:Nat)=>(insS b).getD k 0-k).filter fun x=>decide (0<x)
def zap (b:List Int) (x n:Int):Int:=1+(b.filter fun y=>decide (x-n<y) && decide (y<x)).length
def rimL (b:List Int) (n:Int):List Nat→List (List Int×Int)
 | []=>[]
 | i::is=>if b.getD i 0<n∨(b.getD i 0-n)∈b then rimL b n is else (ofF (b.set i (b.getD i 0-n)),zap b (b.getD i 0) n)::rimL b n is
def rimS (l:List Int) (n:Int):List (List Int×Int):=rimL (qa0 l) n (List.range l.length)
def qs3 (D:List Int→Int) (out:Int) (a:List Int×Int):Int:=if Int.tmod a.2 2=0 then wr .i64 (out-D a.1) else wr .i64 (out+D a.1)
def chF:List Int→List Int→Int
 | _,[]=>1
 | l,n::m=>(rimS l n).foldl (qs3 fun c=>chF c m) 0
def rimO (l:List Int) (n:Int) (m:List Int) (out:Int):Int:=(rimS l n).foldl (qs3 fun c=>chF c m) out
def preC (k:Nat) (l m:List Int):Prop:=qa7 l=true∧qa7 m=true∧boxW l=boxW m∧m.length<k
noncomputable def qqr:Con:=mkC 99 [.d LI] [LI] (fun (l:List Int)=>[qa7 l=true]) (fun (l:List Int)=>(qa0 l,()))
noncomputable def g140 (x0:List Int):Option (List Int×Unit):=gd ((0:Nat)=0) (qb0 (fun (d1:Int×List Int×Unit)=>bif ilt d1.1 (↑(List.length x0):Int) then gd (0≤d1.1∧d1.1<(↑(List.length x0):Int)) (gd (List.length d1.2.1≤List.length d1.2.1) (gd ((List.length d1.2.1+1)*(8:Nat)≤1099511627776) (gd (List.length d1.2.1+1=List.length (List.take (List.length d1.2.1) d1.2.1++wr .i64 (wr .i64 (wr .i64 (List.getD x0 (Int.toNat d1.1) 0+(↑(List.length x0):Int))-1)-d1.1)::([]:List Int))) (some (Lp.go ((wr .i64 (d1.1+1),List.take (List.length d1.2.1) d1.2.1++wr .i64 (wr .i64 (wr .i64 (List.getD x0 (Int.toNat d1.1) 0+(↑(List.length x0):Int))-1)-d1.1)::([]:List Int),()):Int×List Int×Unit)))))) else gd (0+List.length d1.2.1≤List.length d1.2.1) (some (Lp.out ((List.take (List.length d1.2.1) (List.drop 0 d1.2.1),()):List Int×Unit)))) ((0,([]:List Int),()):Int×List Int×Unit))
noncomputable def q0d:List LSh:=LSh.mk (((3,TV.slf (0) (1)):Nat×TV)::((8,TV.v (Ty.int .i64)):Nat×TV)::([]:List (Nat×TV))) (TB.arr (Ty.int .i64) true::([]:List TB))::([]:List LSh)
def ixF (l:List Int) (x:Int):Int:=if x∈l then (l.idxOf x:Nat) else -1
noncomputable def qpb:Con:=mkC 129 [.d LI,.d I64] [I64] (fun (l:List Int) (x:Int)=>[l.length≤1000]) (fun (l:List Int) (x:Int)=>(ixF l x,()))
noncomputable def g145 (x0:List Int) (x1:Int):Option (Int×Unit):=qb0 (fun (d2:Int×Unit)=>bif ilt d2.1 (↑(List.length x0):Int) then gd (0≤d2.1∧d2.1<(↑(List.length x0):Int)) (bif ieq x1 (List.getD x0 (Int.toNat d2.1) 0) then some (Lp.out ((d2.1,()):Int×Unit)) else some (Lp.go ((wr .i64 (d2.1+1),()):Int×Unit))) else some (Lp.out (((-1:Int),()):Int×Unit))) ((0,()):Int×Unit)
noncomputable def qzp:List LSh:=LSh.mk (((8,TV.v (Ty.int .i64)):Nat×TV)::([]:List (Nat×TV))) ([]:List TB)::([]:List LSh)
def hasF (l:List Int) (x:Int):Bool:=decide (x∈l)
noncomputable def qp7:Con:=mkC 100 [.d LI,.d I64] [.bool] (fun (l:List Int) (x:Int)=>[l.length≤1000]) (fun (l:List Int) (x:Int)=>(hasF l x,()))
noncomputable def g141 (x0:List Int) (x1:Int):Option (Bool×Unit):=gd (List.length x0≤1000) (some ((ile 0 (ixF x0 x1),()):Bool×Unit))
noncomputable def q3s:List LSh:=([]:List LSh)
noncomputable def qpm:SCon:=mkS 101 [.slf 0 1] [.arr I64 true] [.v LI] [.dead] (fun (b:List Int)=>[b.length≤8∧∀ x∈b,-100≤x∧x≤100]) (fun (b:List Int)=>(ofF b,()))
noncomputable def g142 (x0:List Int):Option (List Int×Unit):=gd (List.length x0=List.length x0) (gd (List.length x0<4611686018427387904) (gd ((0:Nat)=0) (qb0 (fun (d1:Int×Int×List Int×List Int×Unit)=>bif ile 0 d1.2.1 then gd (0≤d1.2.1∧d1.2.1<(↑(Int.toNat d1.1):Int)) (gd (0+Int.toNat d1.2.1<List.length d1.2.2.1) (bif ilt 0 (wr .i64 (List.getD d1.2.2.1 (0+Int.toNat d1.2.1) 0-d1.2.1)) then gd (List.length d1.2.2.2.1≤List.length d1.2.2.2.1) (gd ((List.length d1.2.2.2.1+1)*(8:Nat)≤1099511627776) (gd (List.length d1.2.2.2.1+1=List.length (List.take (List.length d1.2.2.2.1) d1.2.2.2.1++wr .i64 (List.getD d1.2.2.1 (0+Int.toNat d1.2.1) 0-d1.2.1)::([]:List Int))) (some (Lp.go (((↑(Int.toNat d1.1):Int),wr .i64 (d1.2.1-1),d1.2.2.1,List.take (List.length d1.2.2.2.1) d1.2.2.2.1++wr .i64 (List.getD d1.2.2.1 (0+Int.toNat d1.2.1) 0-d1.2.1)::([]:List Int),()):Int×Int×List Int×List Int×Unit))))) else gd (List.length d1.2.2.2.1=List.length d1.2.2.2.1) (some (Lp.go (((↑(Int.toNat d1.1):Int),wr .i64 (d1.2.1-1),d1.2.2.1,d1.2.2.2.1,()):Int×Int×List Int×List Int×Unit))))) else gd (0+List.length d1.2.2.2.1≤List.length d1.2.2.2.1) (some (Lp.out ((List.take (List.length d1.2.2.2.1) (List.drop 0 d1.2.2.2.1),()):List Int×Unit)))) (((↑(List.length x0):Int),wr .i64 ((↑(List.length x0):Int)-1),qhe x0,([]:List Int),()):Int×Int×List Int×List Int×Unit))))
noncomputable def q0e:List LSh:=LSh.mk3 (((0,TV.sl (1) (1) (0)):Nat×TV)::((3,TV.slf (2) (1)):Nat×TV)::((4,TV.v (Ty.int .i64)):Nat×TV)::([]:List (Nat×TV))) (TB.dead::TB.arr (Ty.int .i64) true::TB.arr (Ty.int .i64) true::([]:List TB)) (1)::([]:List LSh)
noncomputable def qlw (k:Nat):SCon:=mkS 39 [.v LI,.v LI] [] [.v I64] [] (fun (l m:List Int)=>[preC k l m]) (fun (l m:List Int)=>(chF l m,()))
noncomputable def qs6 (k:Nat):SCon:=mkS 69 [.v LI,.v I64,.ref 0 1 0 0,.ref 1 1 0 0] [.cells [.v I64],.cells [.v LI]] [] [.cells [.v I64],.cells [.v LI]] (fun (l:List Int) (r out:Int) (m:List Int)=>[0<m.length∧preC k l (m.drop 1)]) (fun (l:List Int) (r out:Int) (m:List Int)=>(qs3 (fun c=>chF c (m.drop 1)) out (l,r),m,()))
noncomputable def g130 (n:Nat) (x0:List Int) (x1 x2:Int) (x3:List Int):Option (Int×List Int×Unit):=gd ((2:Int)≠0) (bif ieq (Int.tmod x1 2) 0 then gd ((0:Int)≤1∧1≤(↑(List.length x3):Int)) (gd (preC n x0 (List.drop 1 x3)) (some ((wr .i64 (x2-chF x0 (List.drop 1 x3)),x3,()):Int×List Int×Unit))) else gd ((0:Int)≤1∧1≤(↑(List.length x3):Int)) (gd (preC n x0 (List.drop 1 x3)) (some ((wr .i64 (x2+chF x0 (List.drop 1 x3)),x3,()):Int×List Int×Unit))))
noncomputable def qzk:List LSh:=([]:List LSh)
abbrev F130:TV:=.fn 69 (.cons (.ref 0 1 0 0) (.cons (.ref 1 1 0 0) .nil))
def preT (k:Nat) (l:List Int) (n:Int) (m:List Int):Prop:=0<m.length∧n=m.getD 0 0∧preC (k+1) l m
noncomputable def qs0 (k:Nat):SCon:=mkS 68 [.v LI,.v I64,F130] [.cells [.v I64],.cells [.v LI]] [] [.cells [.v I64],.cells [.v LI]] (fun (l:List Int) (n out:Int) (m:List Int)=>[preT k l n m]) (fun (l:List Int) (n out:Int) (m:List Int)=>(rimO l n (m.drop 1) out,m,()))
open List Int in
noncomputable def qr9 (n:Nat) (x0:List Int) (x1:Int) (d5:Int×Int×List Int×Unit) (d6:Int×Int×Int×List Int×Unit):Option (Lp (Int×Int×Int×List Int×Unit) (Lp (Int×Int×List Int×Unit) (Int×List Int×Unit))):=bif ilt d6.2.1 (↑(length (qa0 x0)):Int) then gd (0≤d6.2.1∧d6.2.1<(↑(length (qa0 x0)):Int)) (gd (ilt (wr .i64 (getD (qa0 x0) (toNat d5.1) 0-x1)) (getD (qa0 x0) (toNat d6.2.1) 0)=true→ilt (wr .i64 (getD (qa0 x0) (toNat d5.1) 0-x1)) (getD (qa0 x0) (toNat d6.2.1) 0)=true∧ilt (wr .i64 (getD (qa0 x0) (toNat d5.1) 0-x1)) (getD (qa0 x0) (toNat d6.2.1) 0)=true) (gd (ilt (wr .i64 (getD (qa0 x0) (toNat d5.1) 0-x1)) (getD (qa0 x0) (toNat d6.2.1) 0)=true→ilt (wr .i64 (getD (qa0 x0) (toNat d5.1) 0-x1)) (getD (qa0 x0) (toNat d6.2.1) 0)=true) (bif bif ilt (wr .i64 (getD (qa0 x0) (toNat d5.1) 0-x1)) (getD (qa0 x0) (toNat d6.2.1) 0) then ilt (getD (qa0 x0) (toNat d6.2.1) 0) (getD (qa0 x0) (toNat d5.1) 0) else false then some (Lp.go ((wr .i64 (d6.1+1),wr .i64 (d6.2.1+1),d6.2.2.1,d6.2.2.2.1,()):Int×Int×Int×List Int×Unit)) else some (Lp.go ((d6.1,wr .i64 (d6.2.1+1),d6.2.2.1,d6.2.2.2.1,()):Int×Int×Int×List Int×Unit))))) else gd (length (qa0 x0)≤100000) (gd (0≤d5.1∧d5.1<(↑(length (qa0 x0)):Int)) (gd (0+toNat d5.1<length (qa0 x0)) (gd (length (qa0 x0)=length (List.set (qa0 x0) (0+toNat d5.1) (wr .i64 (getD (qa0 x0) (toNat d5.1) 0-x1)))) (gd (length (List.set (qa0 x0) (0+toNat d5.1) (wr .i64 (getD (qa0 x0) (toNat d5.1) 0-x1)))≤8∧∀ (x7:Int),List.Mem x7 (List.set (qa0 x0) (0+toNat d5.1) (wr .i64 (getD (qa0 x0) (toNat d5.1) 0-x1)))→(-100:Int)≤x7∧x7≤100) (gd (0<length d6.2.2.2.1∧preC n (ofF (List.set (qa0 x0) (0+toNat d5.1) (wr .i64 (getD (qa0 x0) (toNat d5.1) 0-x1)))) (drop 1 d6.2.2.2.1)) (some (Lp.out (Lp.go ((wr .i64 (d5.1+1),qs3 (fun (d7:List Int)=>chF d7 (drop 1 d6.2.2.2.1)) d6.2.2.1 ((ofF (List.set (qa0 x0) (0+toNat d5.1) (wr .i64 (getD (qa0 x0) (toNat d5.1) 0-x1))),d6.1):List Int×Int),d6.2.2.2.1,()):Int×Int×List Int×Unit)))))))))
noncomputable def g129 (n:Nat) (x0:List Int) (x1 x2:Int) (x3:List Int):Option (Int×List Int×Unit):=gd (qa7 x0=true) (qb0 (fun (d5:Int×Int×List Int×Unit)=>bif ilt d5.1 (↑(List.length (qa0 x0)):Int) then gd (0≤d5.1∧d5.1<(↑(List.length (qa0 x0)):Int)) (gd ((!ilt (List.getD (qa0 x0) (Int.toNat d5.1) 0) x1)=true→(!ilt (List.getD (qa0 x0) (Int.toNat d5.1) 0) x1)=true∧(!ilt (List.getD (qa0 x0) (Int.toNat d5.1) 0) x1)=true) (gd ((!ilt (List.getD (qa0 x0) (Int.toNat d5.1) 0) x1)=true→(!ilt (List.getD (qa0 x0) (Int.toNat d5.1) 0) x1)=true∧(!ilt (List.getD (qa0 x0) (Int.toNat d5.1) 0) x1)=true∧List.length (qa0 x0)≤1000) (gd (ilt (List.getD (qa0 x0) (Int.toNat d5.1) 0) x1=false→(!ilt (List.getD (qa0 x0) (Int.toNat d5.1) 0) x1)=true) (bif bif ilt (List.getD (qa0 x0) (Int.toNat d5.1) 0) x1 then true else hasF (qa0 x0) (wr .i64 (List.getD (qa0 x0) (Int.toNat d5.1) 0-x1)) then some (Lp.go ((wr .i64 (d5.1+1),d5.2.1,d5.2.2.1,()):Int×Int×List Int×Unit)) else qb0 (qr9 n x0 x1 d5) ((1,0,d5.2.1,d5.2.2.1,()):Int×Int×Int×List Int×Unit))))) else some (Lp.out ((d5.2.1,d5.2.2.1,()):Int×List Int×Unit))) ((0,x2,x3,()):Int×Int×List Int×Unit))
noncomputable def q1a:List LSh:=LSh.mk3 (((2,TV.fn (69) (TV.cons (TV.ref (0) 1 0 0) (TV.cons (TV.ref (1) 1 0 0) TV.nil))):Nat×TV)::((17,TV.v (Ty.int .i64)):Nat×TV)::([]:List (Nat×TV))) (TB.cells (TV.v (Ty.int .i64)::([]:List TV))::TB.cells (TV.v (Ty.slice (Ty.int .i64))::([]:List TV))::([]:List TB)) (2)::LSh.mk3 (((2,TV.fn (69) (TV.cons (TV.ref (0) 1 0 0) (TV.cons (TV.ref (1) 1 0 0) TV.nil))):Nat×TV)::((9,TV.v (Ty.int .i64)):Nat×TV)::((34,TV.v (Ty.int .i64)):Nat×TV)::([]:List (Nat×TV))) (TB.cells (TV.v (Ty.int .i64)::([]:List TV))::TB.cells (TV.v (Ty.slice (Ty.int .i64))::([]:List TV))::([]:List TB)) (2)::([]:List LSh)
noncomputable def g105 (n:Nat) (x0 x1:List Int):Option (Int×Unit):=bif ieq (↑(List.length x1):Int) 0 then some ((1,()):Int×Unit) else gd ((0:Int)≤0∧0<(↑(List.length x1):Int)) (gd (preT n x0 (List.getD x1 0 0) x1) (some ((rimO x0 (List.getD x1 0 0) (List.drop 1 x1) 0,()):Int×Unit)))
noncomputable def q12:List LSh:=([]:List LSh)
def q28 (l m:List Int):Int×Int×Unit:=if qa7 l=true∧qa7 m=true∧boxW l=boxW m then (chF l m,0,()) else (0,2,())
noncomputable def qyq:Con:=mkC 18 [.d LI,.d LI] [I64,I64] (fun (l m:List Int)=>[l.length≤1000∧m.length≤1000]) (fun (l m:List Int)=>q28 l m)
noncomputable def g62 (x0 x1:List Int):Option (Int×Int×Unit):=gd (List.length x0≤1000) (gd ((!!qa7 x0)=true→(!!qa7 x0)=true∧List.length x1≤1000) (gd ((!!qa7 x0)=true→(!!qa7 x0)=true) (gd ((!qa7 x0)=false→(!!qa7 x0)=true) (gd ((!bif !qa7 x0 then true else !qa7 x1)=true→(!bif !qa7 x0 then true else !qa7 x1)=true∧List.length x0≤1000) (gd ((!bif !qa7 x0 then true else !qa7 x1)=true→(!bif !qa7 x0 then true else !qa7 x1)=true∧List.length x1≤1000) (gd ((!bif !qa7 x0 then true else !qa7 x1)=true→(!bif !qa7 x0 then true else !qa7 x1)=true∧(!bif !qa7 x0 then true else !qa7 x1)=true) (gd ((bif !qa7 x0 then true else !qa7 x1)=false→(!bif !qa7 x0 then true else !qa7 x1)=true) (bif bif bif !qa7 x0 then true else !qa7 x1 then true else !ieq (boxW x0) (boxW x1) then some ((0,2,()):Int×Int×Unit) else gd (preC 9 x0 x1) (some ((chF x0 x1,0,()):Int×Int×Unit))))))))))
noncomputable def q66:List LSh:=([]:List LSh)
def h140 (x0:List Int):Option (List Int×Unit):=gdD ((0:Nat)=(0:Nat)) (q2d 30 (fun (d1:Int×List Int×Unit)=>bif ilt d1.1 (↑(List.length x0):Int) then gdD ((0:Int)≤d1.1∧d1.1<(↑(List.length x0):Int)) (gdD (List.length d1.2.1≤List.length d1.2.1) (gdD ((List.length d1.2.1+(1:Nat))*(8:Nat)≤(1099511627776:Nat)) (gdD (List.length d1.2.1+(1:Nat)=List.length (List.take (List.length d1.2.1) d1.2.1++wr .i64 (wr .i64 (wr .i64 (List.getD x0 (Int.toNat d1.1) (0:Int)+(↑(List.length x0):Int))-(1:Int))-d1.1)::([]:List Int))) (some (Lp.go ((wr .i64 (d1.1+(1:Int)),List.take (List.length d1.2.1) d1.2.1++wr .i64 (wr .i64 (wr .i64 (List.getD x0 (Int.toNat d1.1) (0:Int)+(↑(List.length x0):Int))-(1:Int))-d1.1)::([]:List Int),()):Int×List Int×Unit)))))) else gdD ((0:Nat)+List.length d1.2.1≤List.length d1.2.1) (some (Lp.out ((List.take (List.length d1.2.1) (List.drop (0:Nat) d1.2.1),()):List Int×Unit)))) (((0:Int),([]:List Int),()):Int×List Int×Unit))
theorem q80 (x0:List Int):LeO (h140 x0) (g140 x0):=by
 unfold h140 g140
 repeat' first | exact qag | refine q60 ?_ | refine qah ?_ ?_ | refine qaj ?_ | refine q0f ?_ ?_ | (refine qtw fun s=>?_;try dsimp only)
theorem q82:qpm.goal Tryz.prog (spS [qk8 29 true] []) q0e [8] lm30:=by
 have e:(∀ (b:List Int),(b.length≤8∧∀ x∈b,-100≤x∧x≤100)→g142 b=some (ofF b,()))=qpm.goal Tryz.prog (spS [qk8 29 true] []) q0e [8] lm30:=by kernel_rfl
 rw [← e];rintro b ⟨h1,h2⟩;unfold g142;rw [qa2 rfl,qa2 (by omega),qa2 rfl,qws]
 have hl:(insS b).length=b.length:=qj1.length_eq;have hm:∀ x∈insS b,-100≤x∧x≤100:=fun x hx=>h2 x (qj1.mem_iff.1 hx)
 generalize hs:insS b=s at hl hm
 let fl:Nat→List Int:=fun k=>((List.range k).reverse.map fun (j:Nat)=>s.getD j 0-j).filter fun x=>decide (0<x)
 have hfl:∀ k,fl (k+1)=(if 0<s.getD k 0-k then [s.getD k 0-k] else [])++fl k:=fun k=>by
  show List.filter _ (List.map _ (List.range (k+1)).reverse)=_;rw [List.range_succ,List.reverse_append];simp only [List.reverse_cons,List.reverse_nil,wbg,wbf,wbh,List.filter_cons]
  by_cases h:0<s.getD k 0-(k:Int)
  ·rw [if_pos h,if_pos (decide_eq_true h)];rfl
  ·rw [if_neg h,if_neg (by simpa using h)];rfl
 have key:∀ (k:Nat) (o:List Int),k≤b.length→o.length+k≤b.length→qb0 (fun (d1:Int×Int×List Int×List Int×Unit)=>bif ile (0:Int) d1.2.1 then gd ((0:Int)≤d1.2.1∧d1.2.1<(↑(Int.toNat d1.1):Int)) (gd ((0:Nat)+Int.toNat d1.2.1<List.length d1.2.2.1) (bif ilt (0:Int) (wr .i64 (List.getD d1.2.2.1 ((0:Nat)+Int.toNat d1.2.1) (0:Int)-d1.2.1)) then gd (List.length d1.2.2.2.1≤List.length d1.2.2.2.1) (gd ((List.length d1.2.2.2.1+(1:Nat))*(8:Nat)≤(1099511627776:Nat)) (gd (List.length d1.2.2.2.1+(1:Nat)=List.length (List.take (List.length d1.2.2.2.1) d1.2.2.2.1++wr .i64 (List.getD d1.2.2.1 ((0:Nat)+Int.toNat d1.2.1) (0:Int)-d1.2.1)::([]:List Int))) (some (Lp.go (((↑(Int.toNat d1.1):Int),wr .i64 (d1.2.1-(1:Int)),d1.2.2.1,List.take (List.length d1.2.2.2.1) d1.2.2.2.1++wr .i64 (List.getD d1.2.2.1 ((0:Nat)+Int.toNat d1.2.1) (0:Int)-d1.2.1)::([]:List Int),()):Int×Int×List Int×List Int×Unit))))) else gd (List.length d1.2.2.2.1=List.length d1.2.2.2.1) (some (Lp.go (((↑(Int.toNat d1.1):Int),wr .i64 (d1.2.1-(1:Int)),d1.2.2.1,d1.2.2.2.1,()):Int×Int×List Int×List Int×Unit))))) else gd ((0:Nat)+List.length d1.2.2.2.1≤List.length d1.2.2.2.1) (some (Lp.out ((List.take (List.length d1.2.2.2.1) (List.drop (0:Nat) d1.2.2.2.1),()):List Int×Unit)))) (((b.length:Nat):Int),(k:Int)-1,s,o,())=some (o++fl k,()):=by
  intro k
  induction k with
  | zero =>
   intro o _ _;refine qdt ?_;have:fl 0=[]:=rfl;simp only [qne.2 (show ((0:Nat):Int)-1<0 by omega),wbd,wbs,wba,this,wbw]
   rw [qa2 (by omega)]
  | succ k ih =>
   intro o hk ho;have hks:k<s.length:=by omega
   have hx:=hm (s.getD k 0) (qwe hks);have ek:((k+1:Nat):Int)-1=(k:Int):=by omega
   have w1:wr .i64 ((k:Int)-1)=(k:Int)-1:=qjz (by omega)
   have w2:wr .i64 (s.getD k 0-(k:Int))=s.getD k 0-(k:Int):=qjz (by omega)
   rw [ek,hfl]
   by_cases hpos:0<s.getD k 0-(k:Int)
   ·refine (qei (s':=(((b.length:Nat):Int),(k:Int)-1,s,o++[s.getD k 0-(k:Int)],())) ?_).trans ((ih _ (by omega) (by simp;omega)).trans ?_)
    ·simp only [qr8.2 (show (0:Int)≤(k:Int) by omega),wbe,wad,wa8,w1,w2,qc4.2 hpos,wba]
     rw [qa2 ⟨by omega,by omega⟩,qa2 hks,qa2 (wae _),qa2 (by omega),qa2 (by simp)]
    ·rw [if_pos hpos,wat]
   ·refine (qei (s':=(((b.length:Nat):Int),(k:Int)-1,s,o,())) ?_).trans ((ih _ (by omega) (by omega)).trans ?_)
    ·simp only [qr8.2 (show (0:Int)≤(k:Int) by omega),wbe,wad,wa8,w1,w2,qca.2 (show s.getD k 0-(k:Int)≤0 by omega),wbd]
     rw [qa2 ⟨by omega,by omega⟩,qa2 hks,qc7]
    ·rw [if_neg hpos,wbg]
 have w0:wr .i64 ((b.length:Int)-1)=(b.length:Int)-1:=qjz (by omega)
 rw [w0];have:=key b.length [] (wae _) (by simp)
 rw [wbg] at this;rw [this];unfold ofF;rw [hs]
theorem zfs:qpm.Ok Tryz.prog:=SCon.of_goal mixed okN (okS (ok29 true) okS0) qpm q82
theorem q88:qqr.goal Tryz.prog (spOf []) q0d [] lm30:=by
 have e:(∀ (l:List Int),qa7 l=true→g140 l=some (qa0 l,()))=qqr.goal Tryz.prog (spOf []) q0d [] lm30:=by kernel_rfl
 rw [← e];intro l hl;refine q80 _ _ (q3q (P:=fun l=>h140 l=some (qa0 l,())) ?_ hl)
 decide +kernel
theorem zfw:qqr.Ok Tryz.prog:=Con.of_goal mixed okN qqr q88
theorem zd8 {l:List Int} {x:Int}:ile 0 (ixF l x)=hasF l x:=by
 unfold ixF hasF
 by_cases h:x∈l
 ·rw [if_pos h,decide_eq_true h,qr8];omega
 ·rw [if_neg h,decide_eq_false h,qne];omega
theorem q9v:qpb.goal Tryz.prog (spOf []) qzp [] lm30:=by
 have e:(∀ (l:List Int) (x:Int),l.length≤1000→g145 l x=some (ixF l x,()))=qpb.goal Tryz.prog (spOf []) qzp [] lm30:=by kernel_rfl
 rw [← e];intro l x hl;unfold g145;have key:∀ (c i:Nat),c+i=l.length→x∉l.take i→qb0 (fun (d2:Int×Unit)=>bif ilt d2.1 (↑(List.length l):Int) then gd ((0:Int)≤d2.1∧d2.1<(↑(List.length l):Int)) (bif ieq x (List.getD l (Int.toNat d2.1) (0:Int)) then some (Lp.out ((d2.1,()):Int×Unit)) else some (Lp.go ((wr .i64 (d2.1+(1:Int)),()):Int×Unit))) else some (Lp.out (((-1:Int),()):Int×Unit))) (((i:Nat):Int),())=some (ixF l x,()):=by
  intro c
  induction c with
  | zero =>
   intro i hi hn;refine qdt ?_;rw [wal (by omega)] at hn
   simp only [qca.2 (show (l.length:Int)≤(i:Int) by omega),wbd]
   unfold ixF;rw [if_neg hn]
  | succ c ih =>
   intro i hi hn;have hlt:i<l.length:=by omega
   have hg:l.getD i 0=l[i]:=by rw [waa,wab hlt];rfl
   by_cases hx:x=l[i]
   ·refine qdt ?_;simp only [qc4.2 (show (i:Int)<(l.length:Int) by omega),wbe,wad,hg,qdp.2 hx]
    rw [qa2 ⟨by omega,by omega⟩]
    unfold ixF;have hm:x∈l:=hx▸waq hlt;rw [if_pos hm];have:l.idxOf x=i:=by
     have e1:l=l.take i++(l[i]::l.drop (i+1)):=by rw [← List.drop_eq_getElem_cons hlt,List.take_append_drop]
     conv=>lhs;rw [e1]
     rw [List.idxOf_append,if_neg hn,hx,List.idxOf_cons_self,wao];omega
    rw [this]
   ·refine (qei (s':=(((i+1:Nat):Int),())) ?_).trans (ih (i+1) (by omega) ?_)
    ·have w:wr .i64 ((i:Int)+1)=(i+1:Nat):=(qjz (by omega)).trans (by omega)
     simp only [qc4.2 (show (i:Int)<(l.length:Int) by omega),wbe,wad,hg,qjk.2 hx,wbd,w]
     rw [qa2 ⟨by omega,by omega⟩]
    ·rw [List.take_succ_eq_append_getElem hlt,List.mem_append];rintro (h | h)
     ·exact hn h
     ·exact hx (List.mem_singleton.1 h)
 exact key l.length 0 (by omega) (by simp)
theorem zfx:qpb.Ok Tryz.prog:=Con.of_goal mixed okN qpb q9v
theorem zch:qp7.goal Tryz.prog (spOf [qpb]) q3s [] lm30:=by
 have e:(∀ (l:List Int) (x:Int),l.length≤1000→g141 l x=some (hasF l x,()))=qp7.goal Tryz.prog (spOf [qpb]) q3s [] lm30:=by kernel_rfl
 rw [← e];intro l x hl;unfold g141;rw [qa2 hl,zd8]
theorem zff:qp7.Ok Tryz.prog:=Con.of_goal mixed (okC zfx okN) qp7 zch
def zc6 (p:List Nat) (n:Nat):Bool:=(List.range p.length).all fun i=>decide ((qa0 (toI p)).getD i 0<n) || (hasF (qa0 (toI p)) ((qa0 (toI p)).getD i 0-n) || (qa7 (ofF ((qa0 (toI p)).set i ((qa0 (toI p)).getD i 0-n))) && decide (boxW (ofF ((qa0 (toI p)).set i ((qa0 (toI p)).getD i 0-n)))=boxW (toI p)-n)))
theorem zb3:∀ p∈allP,∀ n∈List.range (p.sum+1),zc6 p n=true:=by decide +kernel
theorem q5i:∀ p∈allP,∀ x∈qa0 (toI p),0≤x∧x≤16:=by decide +kernel
theorem q2a {l:List Int}:(qa0 l).length=l.length:=by simp [qa0]
theorem zbz (k:Nat):(qs6 k).goal Tryz.prog (spS [qlw k] []) qzk [] lm30:=by
 have e:(∀ (l:List Int) (r out:Int) (m:List Int),(0<m.length∧preC k l (m.drop 1))→g130 k l r out m=some (qs3 (fun c=>chF c (m.drop 1)) out (l,r),m,()))=(qs6 k).goal Tryz.prog (spS [qlw k] []) qzk [] lm30:=by kernel_rfl
 rw [← e];rintro l r out m ⟨h1,h2⟩;unfold g130 qs3;rw [qa2 (by decide)]
 by_cases h:Int.tmod r 2=0
 ·rw [qdp.2 h,wbe,qa2 ⟨by omega,by omega⟩,qa2 h2,if_pos h]
 ·rw [qjk.2 h,wbd,qa2 ⟨by omega,by omega⟩,qa2 h2,if_neg h]
theorem qxs {p:List Nat} {m:List Int} (hm:qa7 m=true) (hl:0<m.length):∃ n:Nat,m.getD 0 0=n∧1≤n∧n≤8∧boxW (m.drop 1)=boxW m-n∧qa7 (m.drop 1)=true:=by
 have:∀ p∈allP,0<p.length→qa7 ((toI p).drop 1)=true∧boxW ((toI p).drop 1)=boxW (toI p)-(p.getD 0 0:Nat)∧1≤p.getD 0 0∧p.getD 0 0≤8:=by decide +kernel
 obtain ⟨q,hq,rfl,_⟩:=qf5 hm;obtain ⟨h1,h2,h3,h4⟩:=this q hq (by simpa [toI] using hl)
 exact ⟨q.getD 0 0,qva,h3,h4,h2,h1⟩
theorem q8i (k:Nat):(qs0 k).goal Tryz.prog (spS [qqj,qpm,qs6 k] [qqr,qp7]) q1a [] lm30:=by
 have e:(∀ (l:List Int) (n out:Int) (m:List Int),preT k l n m→g129 k l n out m=some (rimO l n (m.drop 1) out,m,()))=(qs0 k).goal Tryz.prog (spS [qqj,qpm,qs6 k] [qqr,qp7]) q1a [] lm30:=by kernel_rfl
 rw [← e];rintro l n0 out m ⟨hm0,rfl,hl,hm,hbox,hlen⟩;obtain ⟨n,hn,hn1,hn8,hdb,hds⟩:=qxs (p:=[]) hm hm0;obtain ⟨p,hp,rfl,hp8,hp1,hps⟩:=qf5 hl;have hb1:=q8p hp8.len hps;have hpl:=hp8.len;have hbl:(qa0 (toI p)).length=p.length:=by rw [q2a];simp [toI]
 have hnn:(n:Int)≤boxW m:=by
  obtain ⟨q,hq,rfl,hq8,_,hqs⟩:=qf5 hm;have:∀ q∈allP,((q.getD 0 0:Nat):Int)≤boxW (toI q):=by decide +kernel
  have h2:=this q hq;rw [qva] at hn;omega
 have hbd:=q5i p hp;have hrim:=zb3 p hp n (List.mem_range.2 (by omega))
 unfold zc6 at hrim;rw [wbq] at hrim;unfold g129;rw [hn,qa2 hl];unfold rimO rimS;rw [show (toI p).length=p.length by simp [toI]]
 generalize hbs:qa0 (toI p)=b at hbl hbd hrim;have key:∀ (c i:Nat) (o:Int),c+i=p.length→qb0 (fun (d5:Int×Int×List Int×Unit)=>bif ilt d5.1 (↑(List.length b):Int) then gd ((0:Int)≤d5.1∧d5.1<(↑(List.length b):Int)) (gd ((!ilt (List.getD b (Int.toNat d5.1) (0:Int)) (n:Int))=true→(!ilt (List.getD b (Int.toNat d5.1) (0:Int)) (n:Int))=true∧(!ilt (List.getD b (Int.toNat d5.1) (0:Int)) (n:Int))=true) (gd ((!ilt (List.getD b (Int.toNat d5.1) (0:Int)) (n:Int))=true→(!ilt (List.getD b (Int.toNat d5.1) (0:Int)) (n:Int))=true∧(!ilt (List.getD b (Int.toNat d5.1) (0:Int)) (n:Int))=true∧List.length b≤(1000:Nat)) (gd (ilt (List.getD b (Int.toNat d5.1) (0:Int)) (n:Int)=false→(!ilt (List.getD b (Int.toNat d5.1) (0:Int)) (n:Int))=true) (bif bif ilt (List.getD b (Int.toNat d5.1) (0:Int)) (n:Int) then true else hasF b (wr .i64 (List.getD b (Int.toNat d5.1) (0:Int)-(n:Int))) then some (Lp.go ((wr .i64 (d5.1+(1:Int)),d5.2.1,d5.2.2.1,()):Int×Int×List Int×Unit)) else qb0 (qr9 k (toI p) (n:Int) d5) (((1:Int),(0:Int),d5.2.1,d5.2.2.1,()):Int×Int×Int×List Int×Unit))))) else some (Lp.out ((d5.2.1,d5.2.2.1,()):Int×List Int×Unit))) (((i:Nat):Int),o,m,())=some ((rimL b n ((List.range p.length).drop i)).foldl (qs3 fun c=>chF c (m.drop 1)) o,m,()):=by
  intro c
  induction c with
  | zero =>
   intro i o hi;refine qdt ?_;simp only [hbl,qca.2 (show (p.length:Int)≤(i:Int) by omega),wbd]
   rw [show (List.range p.length).drop i=[] from List.drop_eq_nil_of_le (by simp;omega)];rfl
  | succ c ih =>
   intro i o hi;have hlt:i<p.length:=by omega
   have hd:(List.range p.length).drop i=i::(List.range p.length).drop (i+1):=by
    rw [List.drop_eq_getElem_cons (by simpa using hlt),List.getElem_range]
   have w1:wr .i64 ((i:Int)+1)=(i+1:Nat):=(qjz (by omega)).trans (by omega)
   have hxb:=hbd (b.getD i 0) (qwe (by omega))
   have w2:wr .i64 (b.getD i 0-(n:Int))=b.getD i 0-(n:Int):=qjz (by omega)
   rw [hd,rimL]
   by_cases hskip:b.getD i 0<(n:Int)∨(b.getD i 0-(n:Int))∈b
   ·rw [if_pos hskip];refine (qei (s':=(((i+1:Nat):Int),o,m,())) ?_).trans (ih (i+1) o (by omega))
    have hc:(bif ilt (b.getD i 0) (n:Int) then true else hasF b (b.getD i 0-(n:Int)))=true:=by
     rcases hskip with h | h
     ·rw [qc4.2 h];rfl
     ·cases ilt (b.getD i 0) (n:Int)
      ·exact decide_eq_true h
      ·rfl
    simp only [hbl,qc4.2 (show (i:Int)<(p.length:Int) by omega),wbe,wad,w1,w2,hc]
    rw [qa2 ⟨by omega,by omega⟩,qa2 (fun h=>⟨h,h⟩),qa2 (fun h=>⟨h,h,by omega⟩),qa2 (fun h=>by rw [h];rfl)]
   ·rw [if_neg hskip,wbv];have h1:¬ b.getD i 0<(n:Int):=fun h=>hskip (.inl h)
    have h2:(b.getD i 0-(n:Int))∉b:=fun h=>hskip (.inr h)
    have ht:=hrim i (List.mem_range.2 hlt);rw [decide_eq_false h1,show hasF b (b.getD i 0-(n:Int))=false from decide_eq_false h2] at ht
    simp only [Bool.false_or,wa4,wbc] at ht;refine (qei (s':=(((i+1:Nat):Int),qs3 (fun c=>chF c (m.drop 1)) o (ofF (b.set i (b.getD i 0-(n:Int))),zap b (b.getD i 0) n),m,())) ?_).trans (ih (i+1) _ (by omega))
    have hc:(bif ilt (b.getD i 0) (n:Int) then true else hasF b (b.getD i 0-(n:Int)))=false:=by
     rw [qca.2 (by omega),show hasF b (b.getD i 0-(n:Int))=false from decide_eq_false h2];rfl
    simp only [hbl,qc4.2 (show (i:Int)<(p.length:Int) by omega),wbe,wad,w1,w2,hc,wbd]
    rw [qa2 ⟨by omega,by omega⟩,qa2 (fun h=>⟨h,h⟩),qa2 (fun h=>⟨h,h,by omega⟩),qa2 (fun h=>by rw [h];rfl)]
    have hcnt:∀ j,j≤b.length→((b.take j).filter fun y=>decide (b.getD i 0-(n:Int)<y) && decide (y<b.getD i 0)).length≤j:=fun j hj=>Nat.le_trans (List.length_filter_le _ _) (by simp;omega)
    refine q02 (fun j=>(1+((((b.take j).filter fun y=>decide (b.getD i 0-(n:Int)<y) && decide (y<b.getD i 0)).length:Nat):Int),((j:Nat):Int),o,m,())) p.length _ rfl (fun j hj=>?_) ?_
    ·unfold qr9;have hjb:j<b.length:=by omega
     have hgj:b.getD j 0=b[j]:=by rw [waa,wab hjb];rfl
     have w3:wr .i64 ((j:Int)+1)=(j+1:Nat):=(qjz (by omega)).trans (by omega)
     have hcj:=hcnt j (by omega)
     rw [hbs];simp only [hbl,qc4.2 (show (j:Int)<(p.length:Int) by omega),wbe,wad,w2,w3]
     rw [qa2 ⟨by omega,by omega⟩,List.take_succ_eq_append_getElem hjb,List.filter_append,waf,hgj]
     simp only [imp_self,and_self,qc7];have hfs:List.filter (fun y=>decide (b.getD i 0-(n:Int)<y) && decide (y<b.getD i 0)) [b[j]]=if (decide (b.getD i 0-(n:Int)<b[j]) && decide (b[j]<b.getD i 0))=true then [b[j]] else []:=by
      simp only [List.filter_cons,List.filter_nil]
     rw [hfs]
     by_cases k1:b.getD i 0-(n:Int)<b[j]
     ·by_cases k2:b[j]<b.getD i 0
      ·rw [qc4.2 k1,qc4.2 k2,decide_eq_true k1,decide_eq_true k2];simp only [wbe,wbj,if_true,wa6,wbb];rw [qjz (by omega)]
       simp [qc7];omega
      ·rw [qc4.2 k1,qca.2 (show b.getD i 0≤b[j] by omega),decide_eq_false k2]
       simp [qc7]
     ·rw [qca.2 (show b[j]≤b.getD i 0-(n:Int) by omega),decide_eq_false k1]
      simp [qc7]
    ·unfold qr9;have hpre:preC k (ofF (b.set i (b.getD i 0-(n:Int)))) (m.drop 1):=by
      refine ⟨ht.1,hds,?_,by simp;omega⟩
      rw [ht.2,hdb];omega
     have hrows:(1:Int)+((((b.take p.length).filter fun y=>decide (b.getD i 0-(n:Int)<y) && decide (y<b.getD i 0)).length:Nat):Int)=zap b (b.getD i 0) n:=by
      rw [wal (by omega)];rfl
     have hset:(b.set i (b.getD i 0-(n:Int))).length≤8∧∀ x∈b.set i (b.getD i 0-(n:Int)),-100≤x∧x≤100:=by
      refine ⟨by simp;omega,fun x hx=>?_⟩
      rcases List.mem_or_eq_of_mem_set hx with h | h
      ·have:=hbd x h;omega
      ·omega
     rw [hbs,hrows];simp only [hbl,qca.2 (Int.le_refl _),wbd,wad,wa8,w1,w2,wak];rw [qa2 (by omega),qa2 ⟨by omega,by omega⟩,qa2 (by omega),qc7]
     first
      | rw [qa2 hset,qa2 ⟨hm0,hpre⟩]
      | (rw [qa2 ⟨by omega,hset.2⟩,qa2 ⟨hm0,hpre⟩])
 have:=key p.length 0 out (by omega)
 rw [wbs] at this;exact this
theorem q8u (k:Nat):(qlw (k+1)).goal Tryz.prog (spS [qs0 k] []) q12 [] lm30:=by
 have e:(∀ (l m:List Int),preC (k+1) l m→g105 k l m=some (chF l m,()))=(qlw (k+1)).goal Tryz.prog (spS [qs0 k] []) q12 [] lm30:=by kernel_rfl
 rw [← e];intro l m h;unfold g105
 cases m with
 | nil=>rfl
 | cons n m =>
  rw [qjk.2 (by simp only [wa6];omega),wbd,qa2 ⟨by omega,by simp only [wa6];omega⟩,qa2 ⟨by simp,rfl,h⟩]
  rfl
theorem zdj:∀ k,(qlw k).Ok Tryz.prog
 | 0=>qbt _ (by kernel_rfl) fun l m p hp h=>by
   cases hp;have h:preC 0 l m:=allP_one.1 h;have:=h.2.2.2;omega
 | k+1=>SCon.of_goal mixed okN (okS (SCon.of_goal mixed (okC zfw (okC zff okN)) (okS zfb (okS zfs (okS (SCon.of_goal mixed okN (okS (zdj k) okS0) (qs6 k) (zbz k)) okS0))) (qs0 k) (q8i k)) okS0) (qlw (k+1)) (q8u k)
theorem zdr:qyq.goal Tryz.prog (spS [qlw 9] [qxw,qta]) q66 [] lm30:=by
 have e:(∀ (l m:List Int),(l.length≤1000∧m.length≤1000)→g62 l m=some (q28 l m))=qyq.goal Tryz.prog (spS [qlw 9] [qxw,qta]) q66 [] lm30:=by kernel_rfl
 rw [← e];rintro l m ⟨h1,h2⟩;unfold g62 q28
 by_cases hb:boxW l=boxW m
 case neg =>
  have hb2:(boxW l == boxW m)=false:=beq_false_of_ne hb;cases hl:qa7 l<;>cases hm:qa7 m<;>simp [qc7,h1,h2,hl,hm,hb,hb2,ieq]
 cases hl:qa7 l<;>cases hm:qa7 m<;>simp [qc7,h1,h2,hl,hm,hb,ieq]
 refine qa2 ⟨hl,hm,hb,?_⟩;obtain ⟨q,hq,rfl,hq8,_,hqs⟩:=qf5 hm;have:=hq8.len;simp [toI];omega
theorem ok62:qyq.Ok Tryz.prog:=Con.of_goalS mixed (okC ok66 (okC ok86 okN)) (okS (zdj 9) okS0) qyq zdr
end Go.Schur
