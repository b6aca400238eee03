/- Contracts of the chapter on fillings,at this program. -/
import Derived.Test.YtieimmiiaabpgaaProg
import Derived.Test.YtieimmiiaabpgaaAT
import Derived.Test.YtieimmiiaabpgaaAT
import Derived.Test.YtieimmiiaabpgaaAV
set_option maxRecDepth 100000
set_option linter.unusedVariables false
set_option linter.unusedSimpArgs false
namespace Go.Schur
open Go Go.Ab Go.Proofs
abbrev LLI:Ty:=.slice LI
def rowF (l:List Int) (i:Int):Int:=if i<0 then 0 else l.getD i.toNat 0
noncomputable def qko:Con:=mkC 73 [.d LI,.d I64] [I64] (fun (l:List Int) (i:Int)=>[0≤i∧l.length≤1000]) (fun (l:List Int) (i:Int)=>(rowF l i,()))
noncomputable def g110 (x0:List Int) (x1:Int):Option (Int×Unit):=bif ilt x1 (↑(List.length x0):Int) then gd (0≤x1∧x1<(↑(List.length x0):Int)) (some ((List.getD x0 (Int.toNat x1) 0,()):Int×Unit)) else some ((0,()):Int×Unit)
noncomputable def qzk:List LSh:=([]:List LSh)
abbrev MkT:Ty:=.prod LI (.prod LI (.prod LI (.prod I64 (.prod LLI .unit))))
abbrev MkD:=List Int×List Int×List Int×Int×List (List Int)×Unit
def atF (inner:List Int) (rows:List (List Int)) (i j:Int):Int:=if i<0∨j<rowF inner i then 0 else (rows.getD i.toNat []).getD (j-rowF inner i).toNat 0
def atP (inner:List Int) (rows:List (List Int)) (i j:Int):Prop:=inner.length≤1000∧i<rows.length ∧ -1000≤i∧j≤1000∧(0≤i→0≤rowF inner i∧rowF inner i≤1000∧j-rowF inner i<(rows.getD i.toNat []).length)
noncomputable def qn3:Con:=mkC 74 [.d (.ptr MkT),.d I64,.d I64] [I64] (fun (k:MkD) (i j:Int)=>[atP k.1 k.2.2.2.2.1 i j]) (fun (k:MkD) (i j:Int)=>(atF k.1 k.2.2.2.2.1 i j,()))
noncomputable def g111 (x0:List Int×List Int×List Int×Int×List (List Int)×Unit) (x1 x2:Int):Option (Int×Unit):=gd ((!ilt x1 0)=true→(!ilt x1 0)=true) (gd ((!ilt x1 0)=true→(!ilt x1 0)=true) (gd ((!ilt x1 0)=true→(!ilt x1 0)=true) (gd ((!ilt x1 0)=true→(!ilt x1 0)=true∧(!ilt x1 0)=true∧0≤x1∧List.length x0.1≤1000) (gd ((!ilt x1 0)=true→(!ilt x1 0)=true∧(!ilt x1 0)=true) (gd (ilt x1 0=false→(!ilt x1 0)=true) (bif bif ilt x1 0 then true else ilt x2 (rowF x0.1 x1) then some ((0,()):Int×Unit) else gd (0≤x1∧x1<(↑(List.length x0.2.2.2.2.1):Int)) (gd (0≤x1∧List.length x0.1≤1000) (gd (0≤wr .i64 (x2-rowF x0.1 x1)∧wr .i64 (x2-rowF x0.1 x1)<(↑(List.length (List.getD x0.2.2.2.2.1 (Int.toNat x1) ([]:List Int))):Int)) (some ((List.getD (List.getD x0.2.2.2.2.1 (Int.toNat x1) ([]:List Int)) (Int.toNat (wr .i64 (x2-rowF x0.1 x1))) 0,()):Int×Unit))))))))))
noncomputable def qxr:List LSh:=([]:List LSh)
noncomputable def qns:SCon:=mkS 7 [.v LI] [] [.slf 0 1] [.arr I64 true] (fun (l:List Int)=>[l.length≤100000]) (fun (l:List Int)=>(l,()))
noncomputable def g39s (x0:List Int):Option (List Int×Unit):=Option.map id (eqO (List.length x0=0) (gd ((0:Nat)=0) (some ((([]:List Int),()):List Int×Unit))) (gd ((0:Nat)≤0) (gd ((0+List.length x0)*(8:Nat)≤1099511627776) (gd (0+List.length x0=List.length x0) (some ((x0,()):List Int×Unit))))))
noncomputable def qw1:List LSh:=([]:List LSh)
def qh0 (inner:List Int) (rows:List (List Int)):Int :=
 if rows.getLastD []=[] then max 1 (atF inner rows (rows.length-2) (rowF inner (rows.length-1)+(rows.getLastD []).length)+1)
 else max (max 1 (atF inner rows (rows.length-2) (rowF inner (rows.length-1)+(rows.getLastD []).length)+1)) ((rows.getLastD []).getLastD 0)
def full (inner outer:List Int) (rows:List (List Int)):Bool:=rows.length=0 || rowF inner (rows.length-1)+(rows.getLastD []).length=rowF outer (rows.length-1)
def addX (rows:List (List Int)) (x:Int):List (List Int):=rows.dropLast++[rows.getLastD []++[x]]
def catX {A:Type} (g:Int→List A):Nat→Int→List A
 | 0,_=>[]
 | c+1,x=>g x++catX g c (x+1)
def useX {A:Type} (left:List Int) (nul:Bool) (x:Int) (g:List Int→List A):List A :=
 if nul then g left else if left.getD (x-1).toNat 0=0 then [] else g (left.set (x-1).toNat (left.getD (x-1).toNat 0-1))
def fil (inner outer:List Int) (most:Int) (nul:Bool):Nat→List Int→List (List Int)→List (List (List Int))
 | 0,_,_=>[]
 | n+1,left,rows =>
  if full inner outer rows then (if rows.length=outer.length then [rows] else fil inner outer most nul n left (rows++[[]]))
  else catX (fun x=>useX left nul x (fun l=>fil inner outer most nul n l (addX rows x))) (most+1-qh0 inner rows).toNat (qh0 inner rows)
structure preM (n:Nat) (inner outer left:List Int) (most:Int) (nul:Bool) (rows:List (List Int)):Prop where
 il:inner.length≤8
 ol:outer.length≤8
 i0:∀ i:Nat,0≤rowF inner i
 o8:∀ i:Nat,rowF outer i≤8
 od:∀ i:Nat,rowF outer (i+1:Nat)≤rowF outer i
 ins:∀ i:Nat,rowF inner i≤rowF outer i
 len:rows.length≤outer.length
 fl:∀ i:Nat,i+1<rows.length→rowF inner i+(rows.getD i []).length=rowF outer i
 la:∀ i:Nat,i+1=rows.length→rowF inner i+(rows.getD i []).length≤rowF outer i
 ent:∀ r∈rows,∀ x∈r,1≤x∧x≤most
 mo:0≤most∧most≤8
 lf:nul=false→left.length=most∧∀ x∈left,0≤x∧x≤8
 mu:9*(outer.length-rows.length)+(8-(rows.getLastD []).length)<n
def ms77:List Nat:=[900000,900001,62,63,1064,1065,1066,1067,1068,1069,1070,1071,1072,1073,1074,1075,1076,1077,1078,1079]
theorem mixed:Try.prog.follows .mixedOrders=true:=by kernel_rfl
theorem qdc {P:Program} (c:SCon) (hcall:qbj P c.f=true) (h:allD (c.ins.flatMap TV.ts++tsB c.ibl) fun env=>∀ p,c.pre env=some p→¬ allP p):c.Ok P :=
 ⟨hcall,fun Γ w env p r vs em henv hpre hF hp hargs=>absurd hp (qi1 (K:=fun env=>∀ p,c.pre env=some p→¬ allP p) h henv p hpre)⟩
theorem qve {S X:Type} {step:S→Option (Lp S X)} (st:Nat→S) (n:Nat) (x:X) (hgo:∀ i,i<n→step (st i)=some (.go (st (i+1)))) (hout:step (st n)=some (.out x)):qbq step (st 0)=some x:=by
  have key:∀ c i,i+c=n→qbq step (st i)=some x:=by
    intro c
    induction c with
    | zero => intro i hi; have : i = n := by omega
              subst this;exact qei hout
    | succ c ih=>intro i hi;exact (qis (hgo i (by omega))).trans (ih (i+1) (by omega))
  exact key n 0 (by omega)
theorem q53:qko.goal Try.prog (spOf []) qzk [] lm30:=by
 have e:(∀ (l:List Int) (i:Int),(0≤i∧l.length≤1000)→g110 l i=some (rowF l i,()))=qko.goal Try.prog (spOf []) qzk [] lm30:=by kernel_rfl
 rw [← e];rintro l i ⟨h,hl⟩;unfold g110 rowF
 by_cases hi:i<l.length
 ·rw [qwx (qd7.2 hi),qal ⟨h,hi⟩,if_neg (by omega)]
 ·rw [qyc (qch.2 (by omega)),if_neg (by omega)]
  simp [waa,wac (show l.length≤i.toNat by omega)]
theorem q6l:qko.Ok Try.prog:=Con.of_goal mixed okN qko q53
theorem q22:qn3.goal Try.prog (spOf [qko]) qxr [] lm30:=by
 have e:(∀ (k:MkD) (i j:Int),atP k.1 k.2.2.2.2.1 i j→g111 k i j=some (atF k.1 k.2.2.2.2.1 i j,()))=qn3.goal Try.prog (spOf [qko]) qxr [] lm30:=by kernel_rfl
 rw [← e];rintro ⟨inner,outer,left,most,rows,u⟩ i j ⟨hl,hi,hi2,hj,h⟩;simp only [] at *;unfold g111 atF;simp only []
 by_cases h0:i<0
 ·rw [qd7.2 h0];simp [qbl,h0]
 ·have h1:ilt i 0=false:=qch.2 (by omega)
  have h2:=h (by omega)
  by_cases hj2:j<rowF inner i
  ·rw [h1];simp [qbl,h0,qd7.2 hj2,hj2,hl,show 0≤i by omega]
  ·rw [h1,qch.2 (by omega)]
   have hw:wr .i64 (j-rowF inner i)=j-rowF inner i:=qc8 (by omega)
   simp only [hw,wbd];rw [if_neg (by omega)]
   simp only [Bool.not_false,imp_self,forall_const,and_self,qbl,true_and,true_implies]
   repeat rw [qal ⟨by omega,by omega⟩]
theorem q8c:qn3.Ok Try.prog:=Con.of_goal mixed (okC q6l okN) qn3 q22
theorem q25:qns.goal Try.prog (spOf []) qw1 [5] lm30:=by
 have e:(∀ (l:List Int),l.length≤100000→g39s l=some (l,()))=qns.goal Try.prog (spOf []) qw1 [5] lm30:=by kernel_rfl
 rw [← e];intro l hl;unfold g39s
 by_cases h:l.length=0
 ·have:l=[]:=List.length_eq_zero_iff.1 h;subst this;simp [qbl,eqO,gd]
 ·simp [qbl,eqO,h];rw [qal (by omega)]
theorem q8a:qns.Ok Try.prog:=SCon.of_goal mixed okN okS0 qns q25
theorem qk6 {A:Type} (R:List A) (r d:A):(R++[r]).getLastD d=r:=by simp
theorem qct {A:Type} (R:List A) (r d:A):(R++[r]).getD R.length d=r:=by simp
theorem qmd {A:Type} (R:List A) (r d:A) {i:Nat} (h:i<R.length):(R++[r]).getD i d=R.getD i d:=by
 simp [waa,wag h]
theorem qpi {A:Type} (R:List A) (r y:A):(R++[r]).set R.length y=R++[y]:=by
 rw [List.set_append_right _ _ (wae _)];simp
theorem qpv (R:List (List Int)) (r:List Int) (x:Int):addX (R++[r]) x=R++[r++[x]]:=by simp [addX]
theorem qpw {inner outer:List Int} (R:List (List Int)) (r:List Int):full inner outer (R++[r])=decide (rowF inner R.length+r.length=rowF outer R.length):=by
 have:((R++[r]).length:Int)-1=R.length:=by simp
 unfold full;rw [this,qk6];simp
namespace preM
variable {n:Nat} {inner outer left:List Int} {most:Int} {nul:Bool}
theorem open_ {rows:List (List Int)} (h:preM (n+1) inner outer left most nul rows) (hf:full inner outer rows=true) (hl:rows.length≠outer.length):preM n inner outer left most nul (rows++[[]]):=by
 refine { h with len:=?_,fl:=?_,la:=?_,ent:=?_,mu:=?_ }
 ·have:=h.len;simp;omega
 ·intro i hi;simp only [waf,wa6,wbb] at hi;rw [qmd _ _ _ (by omega)]
  by_cases h1:i+1<rows.length
  ·exact h.fl i h1
  ·have h2:i=rows.length-1:=by omega
   have hne:rows≠[]:=fun e=>by subst e;simp at hi
   obtain ⟨R,r,rfl⟩:∃ R r,rows=R++[r]:=⟨rows.dropLast,rows.getLast hne,(List.dropLast_concat_getLast hne).symm⟩;rw [qpw] at hf;have h3:i=R.length:=by simp at h2;exact h2
   subst h3;rw [qct];exact of_decide_eq_true hf
 ·intro i hi;simp only [waf,wa6,wbb] at hi;have:i=rows.length:=by omega
  subst this;rw [qct];simpa using h.ins rows.length
 ·intro r hr
  rcases List.mem_append.1 hr with h1 | h1
  ·exact h.ent r h1
  ·rw [List.mem_singleton.1 h1];intro x hx;cases hx
 ·have:=h.mu;have:=h.len;simp only [qk6,waf,wa6,wbb];omega
theorem lt8 {R:List (List Int)} {r:List Int} (h:preM n inner outer left most nul (R++[r])) (hf:full inner outer (R++[r])=false):rowF inner R.length+r.length<rowF outer R.length:=by
 rw [qpw] at hf;have h1:=of_decide_eq_false hf;have h2:=h.la R.length (by simp)
 rw [qct] at h2;omega
theorem box {R:List (List Int)} {r:List Int} {x:Int} {left':List Int} (h:preM (n+1) inner outer left most nul (R++[r])) (hf:full inner outer (R++[r])=false) (hx:1≤x∧x≤most)
  (hl:nul=false→left'.length=most∧∀ x∈left',0≤x∧x≤8):preM n inner outer left' most nul (R++[r++[x]]):=by
 have hlt:=h.lt8 hf;refine { h with lf:=hl,len:=?_,fl:=?_,la:=?_,ent:=?_,mu:=?_ }
 ·have:=h.len;simpa using this
 ·intro i hi;simp only [waf,wa6,wbb] at hi;have:=h.fl i (by simpa using hi)
  rw [qmd _ _ _ (by omega)] at this ⊢
  exact this
 ·intro i hi;simp only [waf,wa6,wbb] at hi;have:i=R.length:=by omega
  subst this;rw [qct];simp only [waf,wa6,wbb];omega
 ·intro q hq
  rcases List.mem_append.1 hq with h1 | h1
  ·exact h.ent q (wbl _ h1)
  ·rw [List.mem_singleton.1 h1];intro y hy
   rcases List.mem_append.1 hy with h2 | h2
   ·exact h.ent r (by simp) y h2
   ·rw [List.mem_singleton.1 h2];exact hx
 ·have h1:=h.mu;have h2:=h.i0 R.length;have h3:=h.o8 R.length;simp only [qk6,waf,wa6,wbb] at h1 ⊢;omega
theorem capR {rows:List (List Int)} (h:preM n inner outer left most nul rows):rows.length≤8∧∀ r∈rows,r.length≤8:=by
 refine ⟨Nat.le_trans h.len h.ol,fun r hr=>?_⟩
 obtain ⟨i,hi,rfl⟩:=List.getElem_of_mem hr;have h0:=h.i0 i;have h8:=h.o8 i
 by_cases h1:i+1<rows.length
 ·have:=h.fl i h1;simp only [waa,wab hi,Option.getD_some] at this;omega
 ·have:=h.la i (by omega)
  simp only [waa,wab hi,Option.getD_some] at this;omega
end preM
theorem q67 {inner:List Int} {rows:List (List Int)} {most i j:Int} (hm:0≤most) (h:∀ r∈rows,∀ x∈r,1≤x∧x≤most):0≤atF inner rows i j∧atF inner rows i j≤most:=by
 unfold atF;split
 ·omega
 ·simp only [waa]
  cases h1:rows[i.toNat]? with
  | none=>simp;omega
  | some r =>
   simp only [Option.getD_some]
   cases h2:r[(j-rowF inner i).toNat]? with
   | none=>simp;omega
   | some x =>
    have:=h r (wbn h1) x (wbn h2);simp;omega
open Go Go.Ab Go.Proofs
theorem qha {S X σ A:Type} {step:S→Option (Lp S X)} (upd:σ→List A→σ) (P:σ→List A→Prop) (h0:∀ s,upd s []=s) (ha:∀ s a b,upd (upd s a) b=upd s (a++b)) (hP:∀ s a b,P s (a++b)→P s a∧P (upd s a) b) (mk:Int→σ→S) (fin:σ→X) (g:Int→List A) (lo most:Int)
  (hgo:∀ x s,lo≤x→x≤most→P s (g x)→step (mk x s)=some (.go (mk (x+1) (upd s (g x))))) (hout:∀ x s,most<x→step (mk x s)=some (.out (fin s))) :
  ∀ (c:Nat) (x:Int) (s:σ),lo≤x→c=(most+1-x).toNat→P s (catX g c x)→qbq step (mk x s)=some (fin (upd s (catX g c x)))
 | 0,x,s,hx,hc,hp=>by rw [catX,h0];exact qei (hout x s (by omega))
 | c+1,x,s,hx,hc,hp=>by
  rw [catX] at hp ⊢;have h:=hP _ _ _ hp;rw [qis (hgo x s hx (by omega) h.1),qha upd P h0 ha hP mk fin g lo most hgo hout c (x+1) _ (by omega) (by omega) h.2,ha]
theorem qtx {l:List Int} {p:Nat} (h:p<l.length):(l.set p (l.getD p 0-1)).set p ((l.set p (l.getD p 0-1)).getD p 0+1)=l:=by
 simp only [List.set_set];have:(l.set p (l.getD p 0-1)).getD p 0+1=l.getD p 0:=by simp [waa,wax,h]
 rw [this];simp [waa,wab h]
theorem qs8 {a b:Int}:imax a b=max a b:=by unfold imax;split<;>omega
noncomputable def qvl:Con:=mkC 7 [.d LI] [LI] (fun (l:List Int)=>[l.length≤100000]) (fun (l:List Int)=>(l,()))
noncomputable def g39 (x0:List Int):Option (List Int×Unit):=Option.map id (eqO (List.length x0=0) (some ((([]:List Int),()):List Int×Unit)) (gd ((0:Nat)≤0) (gd ((0+List.length x0)*(8:Nat)≤1099511627776) (gd (0+(0+List.length x0)≤List.length x0) (some ((List.take (0+List.length x0) (List.drop 0 x0),()):List Int×Unit))))))
noncomputable def q1v:List LSh:=([]:List LSh)
def boxW (l:List Int):Int:=l.foldl (fun s x=>wr .i64 (s+x)) 0
noncomputable def qkx:Con:=mkC 26 [.d LI] [I64] (fun (l:List Int)=>[l.length≤1000]) (fun (l:List Int)=>(boxW l,()))
noncomputable def g86 (x0:List Int):Option (Int×Unit):=qbq (fun (d1:Int×Int×Unit)=>bif ilt d1.2.1 (↑(List.length x0):Int) then gd (0≤d1.2.1∧d1.2.1<(↑(List.length x0):Int)) (some (Lp.go ((wr .i64 (d1.1+List.getD x0 (Int.toNat d1.2.1) 0),wr .i64 (d1.2.1+1),()):Int×Int×Unit))) else some (Lp.out ((d1.1,()):Int×Unit))) ((0,0,()):Int×Int×Unit)
noncomputable def q10:List LSh:=LSh.mk (((3,TV.v (Ty.int .i64)):Nat×TV)::((8,TV.v (Ty.int .i64)):Nat×TV)::([]:List (Nat×TV))) ([]:List TB)::([]:List LSh)
def qj9 (l:List Int) (i:Nat):Bool:=decide (1≤l.getD i 0) && decide (l.getD i 0≤8) && (decide (i=0) || decide (l.getD i 0≤l.getD (i-1) 0))
def qdd (l:List Int):Bool:=decide (l.length≤8) && (List.range l.length).all (qj9 l) && decide (l.sum≤8)
noncomputable def qu8:Con:=mkC 21 [.d LI] [.bool] (fun (l:List Int)=>[l.length≤1000]) (fun (l:List Int)=>(qdd l,()))
open List Int in
noncomputable def g66 (x0:List Int):Option (Bool×Unit):=bif ilt 8 (↑(length x0):Int) then some ((false,()):Bool×Unit) else qbq (fun (d1:Int×Unit)=>bif ilt d1.1 (↑(length x0):Int) then gd (0≤d1.1∧d1.1<(↑(length x0):Int)) (gd ((!ilt (getD x0 (toNat d1.1) 0) 1)=true→(!ilt (getD x0 (toNat d1.1) 0) 1)=true) (gd (ilt (getD x0 (toNat d1.1) 0) 1=false→(!ilt (getD x0 (toNat d1.1) 0) 1)=true) (gd ((!bif ilt (getD x0 (toNat d1.1) 0) 1 then true else ilt 8 (getD x0 (toNat d1.1) 0))=true→(!bif ilt (getD x0 (toNat d1.1) 0) 1 then true else ilt 8 (getD x0 (toNat d1.1) 0))=true) (gd (((!bif ilt (getD x0 (toNat d1.1) 0) 1 then true else ilt 8 (getD x0 (toNat d1.1) 0)) && ((!bif ilt (getD x0 (toNat d1.1) 0) 1 then true else ilt 8 (getD x0 (toNat d1.1) 0)) && ilt 0 d1.1))=true→((!bif ilt (getD x0 (toNat d1.1) 0) 1 then true else ilt 8 (getD x0 (toNat d1.1) 0)) && ((!bif ilt (getD x0 (toNat d1.1) 0) 1 then true else ilt 8 (getD x0 (toNat d1.1) 0)) && ilt 0 d1.1))=true) (gd (((!bif ilt (getD x0 (toNat d1.1) 0) 1 then true else ilt 8 (getD x0 (toNat d1.1) 0)) && ((!bif ilt (getD x0 (toNat d1.1) 0) 1 then true else ilt 8 (getD x0 (toNat d1.1) 0)) && ilt 0 d1.1))=true→((!bif ilt (getD x0 (toNat d1.1) 0) 1 then true else ilt 8 (getD x0 (toNat d1.1) 0)) && ((!bif ilt (getD x0 (toNat d1.1) 0) 1 then true else ilt 8 (getD x0 (toNat d1.1) 0)) && ilt 0 d1.1))=true∧((!bif ilt (getD x0 (toNat d1.1) 0) 1 then true else ilt 8 (getD x0 (toNat d1.1) 0)) && ((!bif ilt (getD x0 (toNat d1.1) 0) 1 then true else ilt 8 (getD x0 (toNat d1.1) 0)) && ilt 0 d1.1))=true∧0≤wr .i64 (d1.1-1)∧wr .i64 (d1.1-1)<(↑(length x0):Int)) (gd (((!bif ilt (getD x0 (toNat d1.1) 0) 1 then true else ilt 8 (getD x0 (toNat d1.1) 0)) && ((!bif ilt (getD x0 (toNat d1.1) 0) 1 then true else ilt 8 (getD x0 (toNat d1.1) 0)) && ilt 0 d1.1))=true→((!bif ilt (getD x0 (toNat d1.1) 0) 1 then true else ilt 8 (getD x0 (toNat d1.1) 0)) && ((!bif ilt (getD x0 (toNat d1.1) 0) 1 then true else ilt 8 (getD x0 (toNat d1.1) 0)) && ilt 0 d1.1))=true) (gd (((!bif ilt (getD x0 (toNat d1.1) 0) 1 then true else ilt 8 (getD x0 (toNat d1.1) 0)) && ((!bif ilt (getD x0 (toNat d1.1) 0) 1 then true else ilt 8 (getD x0 (toNat d1.1) 0)) && ilt 0 d1.1))=true→((!bif ilt (getD x0 (toNat d1.1) 0) 1 then true else ilt 8 (getD x0 (toNat d1.1) 0)) && ((!bif ilt (getD x0 (toNat d1.1) 0) 1 then true else ilt 8 (getD x0 (toNat d1.1) 0)) && ilt 0 d1.1))=true∧((!bif ilt (getD x0 (toNat d1.1) 0) 1 then true else ilt 8 (getD x0 (toNat d1.1) 0)) && ((!bif ilt (getD x0 (toNat d1.1) 0) 1 then true else ilt 8 (getD x0 (toNat d1.1) 0)) && ilt 0 d1.1))=true) (gd ((!bif ilt (getD x0 (toNat d1.1) 0) 1 then true else ilt 8 (getD x0 (toNat d1.1) 0))=true→(!bif ilt (getD x0 (toNat d1.1) 0) 1 then true else ilt 8 (getD x0 (toNat d1.1) 0))=true∧(!bif ilt (getD x0 (toNat d1.1) 0) 1 then true else ilt 8 (getD x0 (toNat d1.1) 0))=true∧(ilt 0 d1.1=true→((!bif ilt (getD x0 (toNat d1.1) 0) 1 then true else ilt 8 (getD x0 (toNat d1.1) 0)) && ((!bif ilt (getD x0 (toNat d1.1) 0) 1 then true else ilt 8 (getD x0 (toNat d1.1) 0)) && ilt 0 d1.1))=true)) (gd ((bif ilt (getD x0 (toNat d1.1) 0) 1 then true else ilt 8 (getD x0 (toNat d1.1) 0))=false→(!bif ilt (getD x0 (toNat d1.1) 0) 1 then true else ilt 8 (getD x0 (toNat d1.1) 0))=true) (bif bif bif ilt (getD x0 (toNat d1.1) 0) 1 then true else ilt 8 (getD x0 (toNat d1.1) 0) then true else bif ilt 0 d1.1 then ilt (getD x0 (toNat (wr .i64 (d1.1-1))) 0) (getD x0 (toNat d1.1) 0) else false then some (Lp.out ((false,()):Bool×Unit)) else some (Lp.go ((wr .i64 (d1.1+1),()):Int×Unit)))))))))))) else gd (length x0≤1000) (some (Lp.out ((ile (boxW x0) 8,()):Bool×Unit)))) ((0,()):Int×Unit)
noncomputable def q1q:List LSh:=LSh.mk (((10,TV.v (Ty.int .i64)):Nat×TV)::([]:List (Nat×TV))) ([]:List TB)::([]:List LSh)
def badX (x:Int):Bool:=decide (x<0) || decide (8<x)
noncomputable def qot:Con:=mkC 43 [.d I64] [.bool] (fun (x:Int)=>[]) (fun (x:Int)=>(badX x,()))
noncomputable def g108 (x0:Int):Option (Bool×Unit):=gd ((!ilt x0 0)=true→(!ilt x0 0)=true) (gd (ilt x0 0=false→(!ilt x0 0)=true) (some ((bif ilt x0 0 then true else ilt 8 x0,()):Bool×Unit)))
noncomputable def qwy:List LSh:=([]:List LSh)
def qmg:List Int→Int→Int
 | [],_=>-1
 | x::l,i=>if badX x then i else qmg l (i+1)
noncomputable def qoa:Con:=mkC 57 [.d LI,.fn 43 []] [I64] (fun (l:List Int)=>[l.length≤1000]) (fun (l:List Int)=>(qmg l 0,()))
noncomputable def g131 (x0:List Int):Option (Int×Unit):=qbq (fun (d1:Int×Unit)=>bif ilt d1.1 (↑(List.length x0):Int) then gd (0≤d1.1∧d1.1<(↑(List.length x0):Int)) (bif badX (List.getD x0 (Int.toNat d1.1) 0) then some (Lp.out ((d1.1,()):Int×Unit)) else some (Lp.go ((wr .i64 (d1.1+1),()):Int×Unit))) else some (Lp.out (((-1:Int),()):Int×Unit))) ((0,()):Int×Unit)
noncomputable def qxb:List LSh:=LSh.mk (((1,TV.fn (43) TV.nil):Nat×TV)::((8,TV.v (Ty.int .i64)):Nat×TV)::([]:List (Nat×TV))) ([]:List TB)::([]:List LSh)
noncomputable def qow:Con:=mkC 42 [.d LI,.fn 43 []] [.bool] (fun (l:List Int)=>[l.length≤1000]) (fun (l:List Int)=>(l.any badX,()))
noncomputable def g107 (x0:List Int):Option (Bool×Unit):=gd (List.length x0≤1000) (some ((ile 0 (qmg x0 0),()):Bool×Unit))
noncomputable def qyx:List LSh:=([]:List LSh)
def qgx (m:List Int):Bool:=decide (m.length≤8) && m.all (fun x=>decide (0≤x) && decide (x≤8)) && decide (m.sum≤8)
noncomputable def qu9:Con:=mkC 22 [.d LI] [.bool] (fun (m:List Int)=>[m.length≤1000]) (fun (m:List Int)=>(qgx m,()))
noncomputable def g67 (x0:List Int):Option (Bool×Unit):=gd (ile (↑(List.length x0):Int) 8=true→ile (↑(List.length x0):Int) 8=true∧List.length x0≤1000) (gd (ile (↑(List.length x0):Int) 8=true→ile (↑(List.length x0):Int) 8=true) (gd (ile (↑(List.length x0):Int) 8=true→ile (↑(List.length x0):Int) 8=true) (gd ((bif ile (↑(List.length x0):Int) 8 then !List.any x0 badX else false)=true→(bif ile (↑(List.length x0):Int) 8 then !List.any x0 badX else false)=true∧List.length x0≤1000) (gd ((bif ile (↑(List.length x0):Int) 8 then !List.any x0 badX else false)=true→(bif ile (↑(List.length x0):Int) 8 then !List.any x0 badX else false)=true) (gd ((bif ile (↑(List.length x0):Int) 8 then !List.any x0 badX else false)=true→(bif ile (↑(List.length x0):Int) 8 then !List.any x0 badX else false)=true) (some ((bif bif ile (↑(List.length x0):Int) 8 then !List.any x0 badX else false then ile (boxW x0) 8 else false,()):Bool×Unit)))))))
noncomputable def q1p:List LSh:=([]:List LSh)
structure okIn (inner outer m:List Int):Prop where
 il:inner.length≤8
 ol:outer.length≤8
 i0:∀ i:Nat,0≤rowF inner i
 o8:∀ i:Nat,rowF outer i≤8
 od:∀ i:Nat,rowF outer (i+1:Nat)≤rowF outer i
 ins:∀ i:Nat,rowF inner i≤rowF outer i
 ml:m.length≤8
 m8:∀ x∈m,0≤x∧x≤8
theorem q6d:qvl.goal Try.prog (spOf []) q1v [5] lm30:=by
 have e:(∀ (l:List Int),l.length≤100000→g39 l=some (l,()))=qvl.goal Try.prog (spOf []) q1v [5] lm30:=by kernel_rfl
 rw [← e];intro l hl;unfold g39
 by_cases h:l.length=0
 ·have:l=[]:=List.length_eq_zero_iff.1 h;subst this;simp [qbl,eqO]
 ·simp [qbl,eqO,h];rw [qal (by omega)]
theorem ok39:qvl.Ok Try.prog:=Con.of_goal mixed okN qvl q6d
theorem q6h:qkx.goal Try.prog (spOf []) q10 [] lm30:=by
 have e:(∀ (l:List Int),l.length≤1000→g86 l=some (boxW l,()))=qkx.goal Try.prog (spOf []) q10 [] lm30:=by kernel_rfl
 rw [← e];intro l hl;unfold g86;refine qve (fun i=>(boxW (l.take i),(i:Int),())) l.length _ (fun i hi=>?_) ?_
 ·have h4:wr .i64 ((i:Int)+1)=((i+1:Nat):Int):=(qc8 (by omega)).trans (by omega)
  simp only [qd7.2 (show (i:Int)<l.length by omega),wbe,wad,h4]
  have h5:boxW (l.take (i+1))=wr .i64 (boxW (l.take i)+l.getD i 0):=by
   unfold boxW;rw [List.take_succ_eq_append_getElem hi,List.foldl_append,waa,wab hi];rfl
  rw [qal ⟨by omega,by omega⟩,h5]
 ·simp [ilt]
theorem ok86:qkx.Ok Try.prog:=Con.of_goal mixed okN qkx q6h
theorem qwc {S X : Type} {step : S → Option (Lp S X)} (st : Nat → S) (ok : Nat → Bool) (n:Nat) (xf xt : X) (hgo : ∀ i, i < n → ok i = true → step (st i) = some (.go (st (i + 1)))) (hbad : ∀ i, i < n → ok i = false → step (st i) = some (.out xf)) (hout : step (st n) = some (.out xt)) :
    qbq step (st 0)=some (if (List.range n).all ok=true then xt else xf):=by
  have key:∀ c i,i+c=n→qbq step (st i)=some (if (List.range' i c).all ok=true then xt else xf):=by
    intro c
    induction c with
    | zero => intro i hi; have : i = n := by omega
              subst this;simpa using qei hout
    | succ c ih =>
      intro i hi
      cases h:ok i with
      | true=>rw [qis (hgo i (by omega) h),ih (i+1) (by omega),List.range'_succ,List.all_cons,h,Bool.true_and]
      | false=>rw [qei (hbad i (by omega) h),List.range'_succ,List.all_cons,h,wbj];rfl
  rw [List.range_eq_range'];exact key n 0 (by omega)
theorem qsr {S X:Type} {step:S→Option (Lp S X)} (st:Nat→S) (ok:Nat→Bool) (n:Nat) (xf xt y:X) (hst:∀ i,i<n→step (st i)=some (if ok i=true then .go (st (i+1)) else .out xf)) (hout:step (st n)=some (.out xt)) (hy:(if (List.range n).all ok=true then xt else xf)=y) :
  qbq step (st 0)=some y:=by
 rw [← hy];exact qwc st ok n xf xt (fun i hi h=>(hst i hi).trans (by rw [if_pos h])) (fun i hi h=>(hst i hi).trans (by rw [h];rfl)) hout
theorem qt3 {l:List Int} (h:∀ x∈l,0≤x∧x≤8) (hl:l.length≤100000):boxW l=l.sum:=by
 have key:∀ (l:List Int) (s:Int),(∀ x∈l,0≤x∧x≤8)→0≤s→s+8*l.length≤9000000→l.foldl (fun s x=>wr .i64 (s+x)) s=s+l.sum:=by
  intro l
  induction l with
  | nil=>intro s _ _ _;simp
  | cons a l ih =>
   intro s h h0 hs;have ha:=h a (by simp)
   simp only [wa6] at hs;rw [wbt,qc8 (by omega),ih (s+a) (fun x hx=>h x (by simp [hx])) (by omega) (by omega),List.sum_cons]
   omega
 have:=key l 0 h (by omega) (by omega)
 unfold boxW;omega
theorem qfo {l:List Int} {i:Nat}:qj9 l i=true↔(1≤l.getD i 0∧l.getD i 0≤8)∧(i=0∨l.getD i 0≤l.getD (i-1) 0):=by
 simp [qj9,waa]
theorem q62:qu8.goal Try.prog (spOf [qkx]) q1q [] lm30:=by
 have e:(∀ (l:List Int),l.length≤1000→g66 l=some (qdd l,()))=qu8.goal Try.prog (spOf [qkx]) q1q [] lm30:=by kernel_rfl
 rw [← e];intro l hl;unfold g66
 by_cases h8:l.length≤8
 ·rw [qyc (qch.2 (by omega))]
  refine qsr (fun i=>((i:Int),())) (qj9 l) l.length (false,()) (decide (boxW l≤8),()) _ ?_ ?_ ?_
  rotate_left
  ·simp [ilt,gd,hl,ile]
  ·by_cases hr:(List.range l.length).all (qj9 l)=true
   ·have hs:boxW l=l.sum:=qt3 (fun x hx=>by
     obtain ⟨i,hi,rfl⟩:=List.getElem_of_mem hx;have:=(qfo.1 (List.all_eq_true.1 hr i (List.mem_range.2 hi))).1;rw [waa,wab hi] at this;simp at this;omega) (by omega)
    simp only [qdd,hr,h8,hs];simp
   ·simp [qdd,hr]
  intro i hi;have h4:wr .i64 ((i:Int)+1)=((i+1:Nat):Int):=(qc8 (by omega)).trans (by omega)
  simp only [qd7.2 (show (i:Int)<l.length by omega),wbe,wad,h4]
  rw [qal ⟨by omega,by omega⟩]
  simp only [imp_self,qbl]
  by_cases h1:l.getD i 0<1
  ·have:qj9 l i=false:=by simp only [qj9,decide_eq_false (show ¬ 1≤l.getD i 0 by omega),wbj]
   rw [this];generalize l.getD i 0=v at h1;simp [qd7.2 h1,qbl]
  by_cases h2:8<l.getD i 0
  ·have:qj9 l i=false:=by simp only [qj9,decide_eq_false (show ¬ l.getD i 0≤8 by omega),wbj,wbi]
   rw [this];generalize l.getD i 0=v at h1 h2;simp [qch.2 (show (1:Int)≤v by omega),qd7.2 h2,qbl]
  cases i with
  | zero =>
   have:qj9 l 0=true:=qfo.2 ⟨by omega,Or.inl rfl⟩
   rw [this];have h3:ilt (0:Int) ((0:Nat):Int)=false:=by decide
   generalize l.getD 0 0=v at h1 h2;simp only [qch.2 (show (1:Int)≤v by omega),qch.2 (show v≤8 by omega),h3]
   simp [qbl]
  | succ i =>
   have h3:ilt (0:Int) ((i+1:Nat):Int)=true:=qd7.2 (by omega)
   have h5:wr .i64 (((i+1:Nat):Int)-1)=(i:Int):=(qc8 (by omega)).trans (by omega)
   simp only [qch.2 (show (1:Int)≤l.getD (i+1) 0 by omega),qch.2 (show l.getD (i+1) 0≤8 by omega),h3,h5,wad,qbl,wbe,wbd,Bool.not_false,Bool.and_self,imp_self,true_and,true_implies]
   rw [qal ⟨by omega,by omega⟩]
   by_cases h6:l.getD i 0<l.getD (i+1) 0
   ·have:qj9 l (i+1)=false:=Bool.eq_false_iff.2 (fun h=>by have:=(qfo.1 h).2;simp only [Nat.add_sub_cancel] at this;omega)
    rw [qwx (qd7.2 h6),this];rfl
   ·have:qj9 l (i+1)=true:=qfo.2 ⟨by omega,Or.inr (by simp only [Nat.add_sub_cancel];omega)⟩
    rw [qyc (qch.2 (by omega)),this];rfl
 ·rw [qwx (qd7.2 (by omega))]
  simp [qdd,h8]
theorem ok66:qu8.Ok Try.prog:=Con.of_goal mixed (okC ok86 okN) qu8 q62
theorem q38:qot.goal Try.prog (spOf []) qwy [] lm30:=by
 have e:(∀ (x:Int),g108 x=some (badX x,()))=qot.goal Try.prog (spOf []) qwy [] lm30:=by kernel_rfl
 rw [← e];intro x;unfold g108 badX ilt
 by_cases h:x<0
 ·simp [qbl,h]
 ·simp [qbl,h]
theorem q76:qot.Ok Try.prog:=Con.of_goal mixed okN qot q38
theorem q46:qoa.goal Try.prog (spOf [qot]) qxb [] lm30:=by
 have e:(∀ (l:List Int),l.length≤1000→g131 l=some (qmg l 0,()))=qoa.goal Try.prog (spOf [qot]) qxb [] lm30:=by kernel_rfl
 rw [← e];intro l hl;unfold g131;have key:∀ (c i:Nat),i+c=l.length→(fun (y:Option (Int×Unit))=>y=some (qmg (l.drop i) i,())) (qbq (fun (d1:Int×Unit)=>bif ilt d1.1 (↑(List.length l):Int) then gd ((0:Int)≤d1.1∧d1.1<(↑(List.length l):Int)) (bif badX (List.getD l (Int.toNat d1.1) (0:Int)) then some (Lp.out ((d1.1,()):Int×Unit)) else some (Lp.go ((wr .i64 (d1.1+(1:Int)),()):Int×Unit))) else some (Lp.out (((-1:Int),()):Int×Unit))) ((i:Int),())):=by
  intro c
  induction c with
  | zero =>
   intro i hi;have:i=l.length:=by omega
   subst this;refine qei ?_;simp [ilt,qmg]
  | succ c ih =>
   intro i hi;have hlt:i<l.length:=by omega
   have h1:ilt (i:Int) (l.length:Int)=true:=qd7.2 (by omega)
   have h4:wr .i64 ((i:Int)+1)=((i+1:Nat):Int):=(qc8 (by omega)).trans (by omega)
   have h5:l.getD i 0=l[i]:=by simp [waa,wab hlt]
   rw [List.drop_eq_getElem_cons hlt]
   cases hb:badX l[i] with
   | true =>
    refine qei ?_;simp only [h1,wbe,wad,h5,hb,qmg,if_true];rw [qal ⟨by omega,by omega⟩]
   | false =>
    refine (qis (s':=(((i+1:Nat):Int),())) ?_).trans ?_
    ·simp only [h1,wbe,wad,h5,hb,wbd,h4];rw [qal ⟨by omega,by omega⟩]
    ·have:=ih (i+1) (by omega)
     simp only [qmg,hb];simpa using this
 exact key l.length 0 (by omega)
theorem q7v:qoa.Ok Try.prog:=Con.of_goal mixed (okC q76 okN) qoa q46
theorem qru:∀ {l:List Int} {i:Int},0≤i→(0≤qmg l i↔l.any badX=true)
 | [],i,h=>by simp [qmg]
 | x::l,i,h=>by
  unfold qmg
  cases hb:badX x with
  | true=>simp [hb,h]
  | false=>simp only [List.any_cons,hb,Bool.false_or];exact qru (by omega)
theorem q2v:qow.goal Try.prog (spOf [qoa]) qyx [] lm30:=by
 have e:(∀ (l:List Int),l.length≤1000→g107 l=some (l.any badX,()))=qow.goal Try.prog (spOf [qoa]) qyx [] lm30:=by kernel_rfl
 rw [← e];intro l hl;unfold g107;rw [qal hl];congr 2;rw [Bool.eq_iff_iff,ql6];exact qru (by omega)
theorem q8f:qow.Ok Try.prog:=Con.of_goal mixed (okC q7v okN) qow q2v
theorem qui {x:Int}:badX x=false↔0≤x∧x≤8:=by unfold badX;simp
theorem q65:qu9.goal Try.prog (spOf [qow,qkx]) q1p [] lm30:=by
 have e:(∀ (l:List Int),l.length≤1000→g67 l=some (qgx l,()))=qu9.goal Try.prog (spOf [qow,qkx]) q1p [] lm30:=by kernel_rfl
 rw [← e];intro l hl;unfold g67 qgx;have hany:(!l.any badX)=l.all (fun x=>decide (0≤x) && decide (x≤8)):=by
  rw [Bool.eq_iff_iff];simp only [Bool.not_eq_true',List.any_eq_false,wbo,wa4,wbc];exact ⟨fun h x hx=>qui.1 (Bool.eq_false_iff.2 (h x hx)),fun h x hx=>Bool.eq_false_iff.1 (qui.2 (h x hx))⟩
 have hle:ile (l.length:Int) 8=decide (l.length≤8):=by rw [Bool.eq_iff_iff,ql6,decide_eq_true_iff];omega
 rw [hle,hany];simp only [imp_self,qbl,hl,and_true]
 by_cases h1:l.all (fun x=>decide (0≤x) && decide (x≤8))=true
 ·have hs:boxW l=l.sum:=qt3 (fun x hx=>by simpa using List.all_eq_true.1 h1 x hx) (by omega)
  rw [h1,hs];cases decide (l.length≤8)<;>simp [qbl,ile]
 ·rw [Bool.eq_false_iff.2 h1];cases decide (l.length≤8)<;>simp [qbl]
theorem ok67:qu9.Ok Try.prog:=Con.of_goal mixed (okC q8f (okC ok86 okN)) qu9 q65
theorem qp7 {A:Type} {g:Int→List A} {B:Nat}:∀ (c:Nat) (x:Int),(∀ y,x≤y→y<x+c→(g y).length≤B)→(catX g c x).length≤c*B
 | 0,x,h=>by simp [catX]
 | c+1,x,h=>by
  have h1:=h x (by omega) (by omega)
  have h2:=qp7 c (x+1) (fun y h1 h2=>h y (by omega) (by omega))
  rw [catX,waf,Nat.succ_mul];omega
theorem quj {A:Type} {g:Int→List A}:∀ (c:Nat) (x:Int),(∀ y,x≤y→y<x+c→g y=[])→catX g c x=[]
 | 0,x,h=>rfl
 | c+1,x,h=>by rw [catX,h x (by omega) (by omega),quj c (x+1) (fun y h1 h2=>h y (by omega) (by omega))];rfl
def sumN (l:List Int):Nat:=(l.map Int.toNat).sum
theorem qqk:∀ {l:List Int} {p:Nat},p<l.length→0<l.getD p 0→sumN (l.set p (l.getD p 0-1))+1=sumN l
 | [],p,h,_=>by simp at h
 | a::l,0,h,h1=>by simp [sumN] at h1 ⊢;omega
 | a::l,p+1,h,h1=>by
  have:=qqk (l:=l) (p:=p) (by simpa using h) (by simpa using h1)
  simp only [sumN,List.set_cons_succ,wbg,List.sum_cons,List.getD_cons_succ] at this ⊢;omega
theorem qvj {inner:List Int} {rows:List (List Int)}:1≤qh0 inner rows:=by unfold qh0;split<;>omega
theorem qsl {inner outer:List Int} {most:Int} (hm:most≤8):∀ (n:Nat) (left:List Int) (rows:List (List Int)),(left.length:Int)=most→(∀ x∈left,0≤x)→(fil inner outer most false n left rows).length≤8 ^ sumN left
 | 0,left,rows,hl,h=>by simp [fil]
 | n+1,left,rows,hl,h=>by
  have h1:1≤8 ^ sumN left:=Nat.one_le_pow _ _ (by omega)
  rw [fil];split
  ·split
   ·simpa using h1
   ·exact qsl hm n left _ hl h
  ·have hp:=qvj (inner:=inner) (rows:=rows);generalize qh0 inner rows=x0 at hp;have hz0:∀ q,left.length≤q→left.getD q 0=0:=fun q hq=>by simp [waa,wac hq]
   have hge:∀ q (hq:q<left.length),0≤left.getD q 0:=fun q hq=>by
    rw [waa,wab hq];exact h _ (waq hq)
   by_cases hs:sumN left=0
   ·rw [quj]
    ·simp
    intro y h2 h3;unfold useX;generalize (y-1).toNat=q;have hz:left.getD q 0=0:=by
     by_cases hlt:q<left.length
     ·have:=hge q hlt
      by_cases h0:0<left.getD q 0
      ·have:=qqk hlt h0;omega
      ·omega
     ·exact hz0 q (by omega)
    rw [if_neg (by simp),if_pos hz]
   ·obtain ⟨k,hk⟩:∃ k,sumN left=k+1:=⟨sumN left-1,by omega⟩
    refine Nat.le_trans (qp7 (B:=8 ^ k) _ _ fun y h2 h3=>?_) ?_
    ·unfold useX;generalize (y-1).toNat=q;rw [if_neg (by simp)]
     split
     ·simp
     ·rename_i hne
      by_cases hlt:q<left.length
      ·have hnn:=hge q hlt;have h0:0<left.getD q 0:=by omega
       have h4:=qqk hlt h0;have e2:sumN (left.set q (left.getD q 0-1))=k:=by omega
       rw [← e2];refine qsl hm n _ _ (by simpa using hl) fun z hz=>?_
       rcases List.mem_or_eq_of_mem_set hz with h5 | h5
       ·exact h z h5
       ·omega
      ·exact absurd (hz0 q (by omega)) hne
    ·rw [hk,Nat.pow_succ,Nat.mul_comm];exact Nat.mul_le_mul_left _ (by omega)
theorem okIn.pre {inner outer m:List Int} (h:okIn inner outer m):preM 81 inner outer m m.length false [] where
 il:=h.il
 ol:=h.ol
 i0:=h.i0
 o8:=h.o8
 od:=h.od
 ins:=h.ins
 len:=by simp
 fl:=fun i hi=>by simp at hi
 la:=fun i hi=>by simp at hi
 ent:=fun r hr=>by simp at hr
 mo:=by have:=h.ml;omega
 lf:=fun _=>⟨rfl,h.m8⟩
 mu:=by have:=h.ol;simp;omega
theorem ql3 {m:List Int}:qgx m=true↔m.length≤8∧(∀ x∈m,0≤x∧x≤8)∧m.sum≤8:=by
 simp [qgx,and_assoc]
theorem qjf {l:List Int}:qdd l=true↔l.length≤8∧(∀ i,i<l.length→qj9 l i=true)∧l.sum≤8:=by
 simp [qdd,and_assoc]
theorem qt7 {l:List Int} {i:Nat}:rowF l (i:Int)=l.getD i 0:=by
 have:¬ (i:Int)<0:=by omega
 simp [rowF,this]
theorem qil {l:List Int} (h:qdd l=true) (i:Nat):0≤rowF l i∧rowF l i≤8∧rowF l (i+1:Nat)≤rowF l i:=by
 have h:=(qjf.1 h).2.1;have hget:∀ i,l.length≤i→l.getD i 0=0:=fun i hi=>by simp [waa,wac hi]
 rw [qt7,qt7];have h1:0≤l.getD i 0∧l.getD i 0≤8:=by
  by_cases hi:i<l.length
  ·have:=(qfo.1 (h i hi)).1;omega
  ·rw [hget i (by omega)];omega
 refine ⟨h1.1,h1.2,?_⟩
 by_cases hi:i+1<l.length
 ·have:=(qfo.1 (h (i+1) hi)).2;simpa using this
 ·rw [hget (i+1) (by omega)];omega
theorem q3j {a l m:List Int} (ha:qdd a=true) (h:qdd l=true) (hm:qgx m=true) (hin:∀ i:Nat,rowF a i≤rowF l i):okIn a l m where
 il:=(qjf.1 ha).1
 ol:=(qjf.1 h).1
 i0:=fun i=>(qil ha i).1
 o8:=fun i=>(qil h i).2.1
 od:=fun i=>(qil h i).2.2
 ins:=hin
 ml:=(ql3.1 hm).1
 m8:=(ql3.1 hm).2.1
theorem q0m {i:Int}:rowF [] i=0:=by simp [rowF]
theorem q1k {l m:List Int} (h:qdd l=true) (hm:qgx m=true):okIn [] l m:=q3j (by decide) h hm (fun i=>by rw [q0m];exact (qil h i).1)
theorem qxu:∀ {m:List Int},(∀ x∈m,0≤x)→(sumN m:Int)=m.sum
 | [],_=>rfl
 | a::m,h=>by
  have h1:=qxu (m:=m) (fun x hx=>h x (by simp [hx]))
  have h2:=h a (by simp)
  simp only [sumN,wbg,List.sum_cons] at h1 ⊢;omega
theorem q6y {inner outer m:List Int} (hm:qgx m=true):(fil inner outer m.length false 81 m []).length≤16777216:=by
 obtain ⟨h1,h2,h3⟩:=ql3.1 hm;refine Nat.le_trans (qsl (by omega) 81 m [] rfl (fun x hx=>(h2 x hx).1)) ?_
 have:=qxu (fun x hx=>(h2 x hx).1)
 exact Nat.le_trans (Nat.pow_le_pow_right (by omega) (show sumN m≤8 by omega)) (by decide)
noncomputable def qv4:Con:=mkC 24 [.d LLI] [.bool] (fun (rows:List (List Int))=>[]) (fun (rows:List (List Int))=>(true,()))
noncomputable def g72 (x0:List (List Int)):Option (Bool×Unit):=some ((true,()):Bool×Unit)
noncomputable def q1n:List LSh:=([]:List LSh)
abbrev P109 (f:Nat):List TB:=[.nest I64,.cells [.fn f .nil],.cells [.v I64]]
noncomputable def qj2:SCon:=mkS 45 [.slf 0 1,.ref 1 1 0 0,.ref 2 1 0 0] (P109 24) [.v .bool] (P109 24) (fun (rows:List (List Int)) (out:Int)=>[0≤out∧out≤500000000]) (fun (rows:List (List Int)) (out:Int)=>(true,rows,out+1,()))
noncomputable def q63 (x0:List (List Int)) (x1:Int):Option (Bool×List (List Int)×Int×Unit):=gd (0+List.length x0≤List.length x0) (some ((true,x0,wr .i64 (x1+1),()):Bool×List (List Int)×Int×Unit))
noncomputable def que:List LSh:=([]:List LSh)
abbrev F109 (j:Nat):TV:=.fn 45 (.cons (.ref j 1 0 0) (.cons (.ref (j+1) 1 0 0) .nil))
abbrev P77b (f:Nat):List TB:=[.cells [.v LI,.v LI,.slf 3 1,.v I64,.slf 4 1],.cells [.fn f .nil],.cells [.v I64],.arr I64 true,.nest I64]
abbrev Q77b (f:Nat):List TB:=[.cells [.v LI,.v LI,.slf 3 1,.v I64,.slf 5 1],.cells [.fn f .nil],.cells [.v I64],.arr I64 true,.dead,.nest I64]
def preB (n:Nat) (inner outer left:List Int) (most:Int) (rows:List (List Int)) (out:Int):Prop:=preM n inner outer left most false rows∧0≤out∧out+(fil inner outer most false n left rows).length≤500000000
def filB (inner outer:List Int) (most:Int) (n:Nat) (left:List Int) (rows:List (List Int)):Int:=(fil inner outer most false n left rows).length
noncomputable def qgh (n:Nat):SCon:=mkS 58 [.ref 0 1 0 0,F109 1] (P77b 24) [.v .bool] (Q77b 24) (fun (inner outer:List Int) (most:Int) (out:Int) (left:List Int) (rows:List (List Int))=>[preB n inner outer left most rows out]) (fun (inner outer:List Int) (most:Int) (out:Int) (left:List Int) (rows:List (List Int))=>(true,inner,outer,most,out+filB inner outer most n left rows,left,rows,()))
noncomputable def qgq (x0:List Int) (x5:List (List Int)):Int:=wr .i64 (rowF x0 (wr .i64 ((↑(List.length x5):Int)-1))+(↑(List.length (List.getD x5 (0+Int.toNat (wr .i64 ((↑(List.length x5):Int)-1))) ([]:List Int))):Int))
noncomputable def qpc (x0 x1:List Int) (x5:List (List Int)):Bool:=bif ilt (wr .i64 ((↑(List.length x5):Int)-1)) 0 then true else ieq (qgq x0 x5) (rowF x1 (wr .i64 ((↑(List.length x5):Int)-1)))
noncomputable def qqt (x0:List Int) (x5:List (List Int)):Int:=atF x0 (List.take (List.length x5) (List.drop 0 x5)) (wr .i64 (wr .i64 ((↑(List.length x5):Int)-1)-1)) (qgq x0 x5)
noncomputable def qto (x5:List (List Int)):Bool:=ilt 0 (↑(List.length (List.getD x5 (0+Int.toNat (wr .i64 ((↑(List.length x5):Int)-1))) ([]:List Int))):Int)
noncomputable def qtf (x0:List Int) (x5:List (List Int)):Int:=atF x0 (List.take (List.length x5) (List.drop 0 x5)) (wr .i64 ((↑(List.length x5):Int)-1)) (wr .i64 (qgq x0 x5-1))
noncomputable def qlz (d7:Int×List Int×List Int×Int×Int×List Int×List (List Int)×Unit):Bool:=ieq (List.getD d7.2.2.2.2.2.1 (0+Int.toNat (wr .i64 (d7.1-1))) 0) 0
noncomputable def qcv (d7:Int×List Int×List Int×Int×Int×List Int×List (List Int)×Unit):Int:=wr .i64 (List.getD d7.2.2.2.2.2.1 (0+Int.toNat (wr .i64 (d7.1-1))) (0:Int)-1)
noncomputable def qfz (x5:List (List Int)) (d7:Int×List Int×List Int×Int×Int×List Int×List (List Int)×Unit):Int:=(↑(List.length (List.getD (List.set d7.2.2.2.2.2.2.1 (0+Int.toNat (wr .i64 ((↑(List.length x5):Int)-1))) (List.take (List.length (List.getD d7.2.2.2.2.2.2.1 (0+Int.toNat (wr .i64 ((↑(List.length x5):Int)-1))) ([]:List Int))) (List.getD d7.2.2.2.2.2.2.1 (0+Int.toNat (wr .i64 ((↑(List.length x5):Int)-1))) ([]:List Int))++d7.1::([]:List Int))) (0+Int.toNat (wr .i64 ((↑(List.length x5):Int)-1))) ([]:List Int))):Int)
noncomputable def qkc (d7:Int×List Int×List Int×Int×Int×List Int×List (List Int)×Unit):Int:=List.getD (List.set d7.2.2.2.2.2.1 (0+Int.toNat (wr .i64 (d7.1-1))) (qcv d7)) (0+Int.toNat (wr .i64 (d7.1-1))) 0
noncomputable def qlb (d7:Int×List Int×List Int×Int×Int×List Int×List (List Int)×Unit):Bool:=ieq (List.getD d7.2.2.2.2.2.1 (0+Int.toNat (wr .i64 (d7.1-1))) 0) 0
noncomputable def qb0 (d7:Int×List Int×List Int×Int×Int×List Int×List (List Int)×Unit):Int:=wr .i64 (List.getD d7.2.2.2.2.2.1 (0+Int.toNat (wr .i64 (d7.1-1))) (0:Int)-1)
noncomputable def qeh (x5:List (List Int)) (d7:Int×List Int×List Int×Int×Int×List Int×List (List Int)×Unit):Int:=(↑(List.length (List.getD (List.set d7.2.2.2.2.2.2.1 (0+Int.toNat (wr .i64 ((↑(List.length x5):Int)-1))) (List.take (List.length (List.getD d7.2.2.2.2.2.2.1 (0+Int.toNat (wr .i64 ((↑(List.length x5):Int)-1))) ([]:List Int))) (List.getD d7.2.2.2.2.2.2.1 (0+Int.toNat (wr .i64 ((↑(List.length x5):Int)-1))) ([]:List Int))++d7.1::([]:List Int))) (0+Int.toNat (wr .i64 ((↑(List.length x5):Int)-1))) ([]:List Int))):Int)
noncomputable def qg4 (d7:Int×List Int×List Int×Int×Int×List Int×List (List Int)×Unit):Int:=List.getD (List.set d7.2.2.2.2.2.1 (0+Int.toNat (wr .i64 (d7.1-1))) (qb0 d7)) (0+Int.toNat (wr .i64 (d7.1-1))) 0
open List Int in
noncomputable def g77b (n:Nat) (x0 x1:List Int) (x2 x3:Int) (x4:List Int) (x5:List (List Int)):Option (Bool×List Int×List Int×Int×Int×List Int×List (List Int)×Unit):=gd ((!ilt (wr .i64 ((↑(length x5):Int)-1)) 0)=true→(!ilt (wr .i64 ((↑(length x5):Int)-1)) 0)=true) (gd ((!ilt (wr .i64 ((↑(length x5):Int)-1)) 0)=true→(!ilt (wr .i64 ((↑(length x5):Int)-1)) 0)=true) (gd ((!ilt (wr .i64 ((↑(length x5):Int)-1)) 0)=true→(!ilt (wr .i64 ((↑(length x5):Int)-1)) 0)=true) (gd ((!ilt (wr .i64 ((↑(length x5):Int)-1)) 0)=true→(!ilt (wr .i64 ((↑(length x5):Int)-1)) 0)=true∧(!ilt (wr .i64 ((↑(length x5):Int)-1)) 0)=true∧0≤wr .i64 ((↑(length x5):Int)-1)∧length x0≤1000) (gd ((!ilt (wr .i64 ((↑(length x5):Int)-1)) 0)=true→(!ilt (wr .i64 ((↑(length x5):Int)-1)) 0)=true) (gd ((!ilt (wr .i64 ((↑(length x5):Int)-1)) 0)=true→(!ilt (wr .i64 ((↑(length x5):Int)-1)) 0)=true) (gd ((!ilt (wr .i64 ((↑(length x5):Int)-1)) 0)=true→(!ilt (wr .i64 ((↑(length x5):Int)-1)) 0)=true) (gd ((!ilt (wr .i64 ((↑(length x5):Int)-1)) 0)=true→(!ilt (wr .i64 ((↑(length x5):Int)-1)) 0)=true∧(!ilt (wr .i64 ((↑(length x5):Int)-1)) 0)=true∧0≤wr .i64 ((↑(length x5):Int)-1)∧wr .i64 ((↑(length x5):Int)-1)<(↑(length x5):Int)) (gd ((!ilt (wr .i64 ((↑(length x5):Int)-1)) 0)=true→(!ilt (wr .i64 ((↑(length x5):Int)-1)) 0)=true∧0+toNat (wr .i64 ((↑(length x5):Int)-1))<length x5) (gd ((!ilt (wr .i64 ((↑(length x5):Int)-1)) 0)=true→(!ilt (wr .i64 ((↑(length x5):Int)-1)) 0)=true) (gd ((!ilt (wr .i64 ((↑(length x5):Int)-1)) 0)=true→(!ilt (wr .i64 ((↑(length x5):Int)-1)) 0)=true∧(!ilt (wr .i64 ((↑(length x5):Int)-1)) 0)=true) (gd ((!ilt (wr .i64 ((↑(length x5):Int)-1)) 0)=true→(!ilt (wr .i64 ((↑(length x5):Int)-1)) 0)=true) (gd ((!ilt (wr .i64 ((↑(length x5):Int)-1)) 0)=true→(!ilt (wr .i64 ((↑(length x5):Int)-1)) 0)=true) (gd ((!ilt (wr .i64 ((↑(length x5):Int)-1)) 0)=true→(!ilt (wr .i64 ((↑(length x5):Int)-1)) 0)=true) (gd ((!ilt (wr .i64 ((↑(length x5):Int)-1)) 0)=true→(!ilt (wr .i64 ((↑(length x5):Int)-1)) 0)=true∧(!ilt (wr .i64 ((↑(length x5):Int)-1)) 0)=true∧0≤wr .i64 ((↑(length x5):Int)-1)∧length x1≤1000) (gd ((!ilt (wr .i64 ((↑(length x5):Int)-1)) 0)=true→(!ilt (wr .i64 ((↑(length x5):Int)-1)) 0)=true∧(!ilt (wr .i64 ((↑(length x5):Int)-1)) 0)=true) (gd (ilt (wr .i64 ((↑(length x5):Int)-1)) 0=false→(!ilt (wr .i64 ((↑(length x5):Int)-1)) 0)=true) (bif qpc x0 x1 x5 then bif ieq (wr .i64 (wr .i64 ((↑(length x5):Int)-1)+1)) (↑(length x1):Int) then gd (length x5=length x5) (gd (0≤x3∧x3≤500000000) (gd (length x4=length x4) (gd (length x5=length x5) (some ((true,x0,x1,x2,x3+1,x4,x5,()):Bool×List Int×List Int×Int×Int×List Int×List (List Int)×Unit))))) else gd ((0:Nat)=0) (gd (length x5≤length x5) (gd ((length x5+1)*(24:Nat)≤1099511627776) (gd (length x4=length x4) (gd (length x5+1=length (take (length x5) x5++([]:List Int)::([]:List (List Int)))) (gd (preB n x0 x1 x4 x2 (take (length x5) x5++([]:List Int)::([]:List (List Int))) x3) (gd (0≤wr .i64 (wr .i64 ((↑(length x5):Int)-1)+1)∧wr .i64 (wr .i64 ((↑(length x5):Int)-1)+1)≤(↑(length (take (length x5) x5++([]:List Int)::([]:List (List Int)))):Int)) (gd (length x4=length x4) (gd (toNat (wr .i64 (wr .i64 ((↑(length x5):Int)-1)+1))=length (take (toNat (wr .i64 (wr .i64 ((↑(length x5):Int)-1)+1))) (take (length x5) x5++([]:List Int)::([]:List (List Int))))) (some ((true,x0,x1,x2,x3+filB x0 x1 x2 n x4 (take (length x5) x5++([]:List Int)::([]:List (List Int))),x4,take (toNat (wr .i64 (wr .i64 ((↑(length x5):Int)-1)+1))) (take (length x5) x5++([]:List Int)::([]:List (List Int))),()):Bool×List Int×List Int×Int×Int×List Int×List (List Int)×Unit)))))))))) else gd (0≤wr .i64 ((↑(length x5):Int)-1)∧length x0≤1000) (gd (0≤wr .i64 ((↑(length x5):Int)-1)∧wr .i64 ((↑(length x5):Int)-1)<(↑(length x5):Int)) (gd (0+toNat (wr .i64 ((↑(length x5):Int)-1))<length x5) (gd (0+length x4≤length x4) (gd (0+length x5≤length x5) (gd (atP x0 (take (length x5) (drop 0 x5)) (wr .i64 (wr .i64 ((↑(length x5):Int)-1)-1)) (qgq x0 x5)) (gd (0≤wr .i64 ((↑(length x5):Int)-1)∧wr .i64 ((↑(length x5):Int)-1)<(↑(length x5):Int)) (gd (0+toNat (wr .i64 ((↑(length x5):Int)-1))<length x5) (bif qto x5 then gd (0+length x4≤length x4) (gd (0+length x5≤length x5) (gd (atP x0 (take (length x5) (drop 0 x5)) (wr .i64 ((↑(length x5):Int)-1)) (wr .i64 (qgq x0 x5-1))) (gd (length x4=length x4) (gd (length x5=length x5) (qbq (fun (d7:Int×List Int×List Int×Int×Int×List Int×List (List Int)×Unit)=>bif ile d7.1 d7.2.2.2.1 then gd (¬length d7.2.2.2.2.2.1=0) (gd (0≤wr .i64 (d7.1-1)∧wr .i64 (d7.1-1)<(↑(length d7.2.2.2.2.2.1):Int)) (gd (0+toNat (wr .i64 (d7.1-1))<length d7.2.2.2.2.2.1) (bif qlz d7 then gd (length d7.2.2.2.2.2.1=length d7.2.2.2.2.2.1) (gd (length d7.2.2.2.2.2.2.1=length d7.2.2.2.2.2.2.1) (some (Lp.go ((wr .i64 (d7.1+1),d7.2.1,d7.2.2.1,d7.2.2.2.1,d7.2.2.2.2.1,d7.2.2.2.2.2.1,d7.2.2.2.2.2.2.1,()):Int×List Int×List Int×Int×Int×List Int×List (List Int)×Unit)))) else gd (0≤wr .i64 (d7.1-1)∧wr .i64 (d7.1-1)<(↑(length d7.2.2.2.2.2.1):Int)) (gd (0+toNat (wr .i64 (d7.1-1))<length d7.2.2.2.2.2.1) (gd (0≤wr .i64 (d7.1-1)∧wr .i64 (d7.1-1)<(↑(length d7.2.2.2.2.2.1):Int)) (gd (0+toNat (wr .i64 (d7.1-1))<length d7.2.2.2.2.2.1) (gd (0≤wr .i64 ((↑(length x5):Int)-1)∧wr .i64 ((↑(length x5):Int)-1)<(↑(length d7.2.2.2.2.2.2.1):Int)) (gd (0+toNat (wr .i64 ((↑(length x5):Int)-1))<length d7.2.2.2.2.2.2.1) (gd (0+toNat (wr .i64 ((↑(length x5):Int)-1))<length d7.2.2.2.2.2.2.1) (gd (length (getD d7.2.2.2.2.2.2.1 (0+toNat (wr .i64 ((↑(length x5):Int)-1))) ([]:List Int))≤length (getD d7.2.2.2.2.2.2.1 (0+toNat (wr .i64 ((↑(length x5):Int)-1))) ([]:List Int))) (gd ((length (getD d7.2.2.2.2.2.2.1 (0+toNat (wr .i64 ((↑(length x5):Int)-1))) ([]:List Int))+1)*(8:Nat)≤1099511627776) (gd (0≤wr .i64 ((↑(length x5):Int)-1)∧wr .i64 ((↑(length x5):Int)-1)<(↑(length d7.2.2.2.2.2.2.1):Int)) (gd (0+toNat (wr .i64 ((↑(length x5):Int)-1))<length (List.set d7.2.2.2.2.2.2.1 (0+toNat (wr .i64 ((↑(length x5):Int)-1))) (take (length (getD d7.2.2.2.2.2.2.1 (0+toNat (wr .i64 ((↑(length x5):Int)-1))) ([]:List Int))) (getD d7.2.2.2.2.2.2.1 (0+toNat (wr .i64 ((↑(length x5):Int)-1))) ([]:List Int))++d7.1::([]:List Int)))) (gd (0+toNat (wr .i64 ((↑(length x5):Int)-1))=0+toNat (wr .i64 ((↑(length x5):Int)-1))) (gd (0+toNat (wr .i64 ((↑(length x5):Int)-1))=0+toNat (wr .i64 ((↑(length x5):Int)-1))) (gd (length (getD d7.2.2.2.2.2.2.1 (0+toNat (wr .i64 ((↑(length x5):Int)-1))) ([]:List Int))+1=length (getD (List.set d7.2.2.2.2.2.2.1 (0+toNat (wr .i64 ((↑(length x5):Int)-1))) (take (length (getD d7.2.2.2.2.2.2.1 (0+toNat (wr .i64 ((↑(length x5):Int)-1))) ([]:List Int))) (getD d7.2.2.2.2.2.2.1 (0+toNat (wr .i64 ((↑(length x5):Int)-1))) ([]:List Int))++d7.1::([]:List Int))) (0+toNat (wr .i64 ((↑(length x5):Int)-1))) ([]:List Int))) (gd (length d7.2.2.2.2.2.1=length (List.set d7.2.2.2.2.2.1 (0+toNat (wr .i64 (d7.1-1))) (qcv d7))) (gd (length d7.2.2.2.2.2.2.1=length (List.set d7.2.2.2.2.2.2.1 (0+toNat (wr .i64 ((↑(length x5):Int)-1))) (take (length (getD d7.2.2.2.2.2.2.1 (0+toNat (wr .i64 ((↑(length x5):Int)-1))) ([]:List Int))) (getD d7.2.2.2.2.2.2.1 (0+toNat (wr .i64 ((↑(length x5):Int)-1))) ([]:List Int))++d7.1::([]:List Int)))) (gd (preB n d7.2.1 d7.2.2.1 (List.set d7.2.2.2.2.2.1 (0+toNat (wr .i64 (d7.1-1))) (qcv d7)) d7.2.2.2.1 (List.set d7.2.2.2.2.2.2.1 (0+toNat (wr .i64 ((↑(length x5):Int)-1))) (take (length (getD d7.2.2.2.2.2.2.1 (0+toNat (wr .i64 ((↑(length x5):Int)-1))) ([]:List Int))) (getD d7.2.2.2.2.2.2.1 (0+toNat (wr .i64 ((↑(length x5):Int)-1))) ([]:List Int))++d7.1::([]:List Int))) d7.2.2.2.2.1) (gd (0≤wr .i64 ((↑(length x5):Int)-1)∧wr .i64 ((↑(length x5):Int)-1)<(↑(length (List.set d7.2.2.2.2.2.2.1 (0+toNat (wr .i64 ((↑(length x5):Int)-1))) (take (length (getD d7.2.2.2.2.2.2.1 (0+toNat (wr .i64 ((↑(length x5):Int)-1))) ([]:List Int))) (getD d7.2.2.2.2.2.2.1 (0+toNat (wr .i64 ((↑(length x5):Int)-1))) ([]:List Int))++d7.1::([]:List Int)))):Int)) (gd (0+toNat (wr .i64 ((↑(length x5):Int)-1))<length (List.set d7.2.2.2.2.2.2.1 (0+toNat (wr .i64 ((↑(length x5):Int)-1))) (take (length (getD d7.2.2.2.2.2.2.1 (0+toNat (wr .i64 ((↑(length x5):Int)-1))) ([]:List Int))) (getD d7.2.2.2.2.2.2.1 (0+toNat (wr .i64 ((↑(length x5):Int)-1))) ([]:List Int))++d7.1::([]:List Int)))) (gd (0≤wr .i64 ((↑(length x5):Int)-1)∧wr .i64 ((↑(length x5):Int)-1)<(↑(length (List.set d7.2.2.2.2.2.2.1 (0+toNat (wr .i64 ((↑(length x5):Int)-1))) (take (length (getD d7.2.2.2.2.2.2.1 (0+toNat (wr .i64 ((↑(length x5):Int)-1))) ([]:List Int))) (getD d7.2.2.2.2.2.2.1 (0+toNat (wr .i64 ((↑(length x5):Int)-1))) ([]:List Int))++d7.1::([]:List Int)))):Int)) (gd (0+toNat (wr .i64 ((↑(length x5):Int)-1))<length (List.set d7.2.2.2.2.2.2.1 (0+toNat (wr .i64 ((↑(length x5):Int)-1))) (take (length (getD d7.2.2.2.2.2.2.1 (0+toNat (wr .i64 ((↑(length x5):Int)-1))) ([]:List Int))) (getD d7.2.2.2.2.2.2.1 (0+toNat (wr .i64 ((↑(length x5):Int)-1))) ([]:List Int))++d7.1::([]:List Int)))) (gd (0≤wr .i64 (qfz x5 d7-1)∧wr .i64 (qfz x5 d7-1)≤(↑(length (getD (List.set d7.2.2.2.2.2.2.1 (0+toNat (wr .i64 ((↑(length x5):Int)-1))) (take (length (getD d7.2.2.2.2.2.2.1 (0+toNat (wr .i64 ((↑(length x5):Int)-1))) ([]:List Int))) (getD d7.2.2.2.2.2.2.1 (0+toNat (wr .i64 ((↑(length x5):Int)-1))) ([]:List Int))++d7.1::([]:List Int))) (0+toNat (wr .i64 ((↑(length x5):Int)-1))) ([]:List Int))):Int)) (gd (0≤wr .i64 ((↑(length x5):Int)-1)∧wr .i64 ((↑(length x5):Int)-1)<(↑(length (List.set d7.2.2.2.2.2.2.1 (0+toNat (wr .i64 ((↑(length x5):Int)-1))) (take (length (getD d7.2.2.2.2.2.2.1 (0+toNat (wr .i64 ((↑(length x5):Int)-1))) ([]:List Int))) (getD d7.2.2.2.2.2.2.1 (0+toNat (wr .i64 ((↑(length x5):Int)-1))) ([]:List Int))++d7.1::([]:List Int)))):Int)) (gd (0+toNat (wr .i64 ((↑(length x5):Int)-1))<length (List.set d7.2.2.2.2.2.2.1 (0+toNat (wr .i64 ((↑(length x5):Int)-1))) (take (length (getD d7.2.2.2.2.2.2.1 (0+toNat (wr .i64 ((↑(length x5):Int)-1))) ([]:List Int))) (getD d7.2.2.2.2.2.2.1 (0+toNat (wr .i64 ((↑(length x5):Int)-1))) ([]:List Int))++d7.1::([]:List Int)))) (gd (0+toNat (wr .i64 ((↑(length x5):Int)-1))=0+toNat (wr .i64 ((↑(length x5):Int)-1))) (gd (toNat (wr .i64 (qfz x5 d7-1))≤length (getD (List.set d7.2.2.2.2.2.2.1 (0+toNat (wr .i64 ((↑(length x5):Int)-1))) (take (length (getD d7.2.2.2.2.2.2.1 (0+toNat (wr .i64 ((↑(length x5):Int)-1))) ([]:List Int))) (getD d7.2.2.2.2.2.2.1 (0+toNat (wr .i64 ((↑(length x5):Int)-1))) ([]:List Int))++d7.1::([]:List Int))) (0+toNat (wr .i64 ((↑(length x5):Int)-1))) ([]:List Int))) (gd (¬length (List.set d7.2.2.2.2.2.1 (0+toNat (wr .i64 (d7.1-1))) (qcv d7))=0) (gd (0≤wr .i64 (d7.1-1)∧wr .i64 (d7.1-1)<(↑(length (List.set d7.2.2.2.2.2.1 (0+toNat (wr .i64 (d7.1-1))) (qcv d7))):Int)) (gd (0+toNat (wr .i64 (d7.1-1))<length (List.set d7.2.2.2.2.2.1 (0+toNat (wr .i64 (d7.1-1))) (qcv d7))) (gd (0≤wr .i64 (d7.1-1)∧wr .i64 (d7.1-1)<(↑(length (List.set d7.2.2.2.2.2.1 (0+toNat (wr .i64 (d7.1-1))) (qcv d7))):Int)) (gd (0+toNat (wr .i64 (d7.1-1))<length (List.set d7.2.2.2.2.2.1 (0+toNat (wr .i64 (d7.1-1))) (qcv d7))) (gd (length (List.set d7.2.2.2.2.2.1 (0+toNat (wr .i64 (d7.1-1))) (qcv d7))=length (List.set (List.set d7.2.2.2.2.2.1 (0+toNat (wr .i64 (d7.1-1))) (qcv d7)) (0+toNat (wr .i64 (d7.1-1))) (wr .i64 (qkc d7+1)))) (gd (length (List.set d7.2.2.2.2.2.2.1 (0+toNat (wr .i64 ((↑(length x5):Int)-1))) (take (length (getD d7.2.2.2.2.2.2.1 (0+toNat (wr .i64 ((↑(length x5):Int)-1))) ([]:List Int))) (getD d7.2.2.2.2.2.2.1 (0+toNat (wr .i64 ((↑(length x5):Int)-1))) ([]:List Int))++d7.1::([]:List Int)))=length (List.set (List.set d7.2.2.2.2.2.2.1 (0+toNat (wr .i64 ((↑(length x5):Int)-1))) (take (length (getD d7.2.2.2.2.2.2.1 (0+toNat (wr .i64 ((↑(length x5):Int)-1))) ([]:List Int))) (getD d7.2.2.2.2.2.2.1 (0+toNat (wr .i64 ((↑(length x5):Int)-1))) ([]:List Int))++d7.1::([]:List Int))) (0+toNat (wr .i64 ((↑(length x5):Int)-1))) (take (toNat (wr .i64 (qfz x5 d7-1))) (getD (List.set d7.2.2.2.2.2.2.1 (0+toNat (wr .i64 ((↑(length x5):Int)-1))) (take (length (getD d7.2.2.2.2.2.2.1 (0+toNat (wr .i64 ((↑(length x5):Int)-1))) ([]:List Int))) (getD d7.2.2.2.2.2.2.1 (0+toNat (wr .i64 ((↑(length x5):Int)-1))) ([]:List Int))++d7.1::([]:List Int))) (0+toNat (wr .i64 ((↑(length x5):Int)-1))) ([]:List Int))))) (some (Lp.go ((wr .i64 (d7.1+1),d7.2.1,d7.2.2.1,d7.2.2.2.1,d7.2.2.2.2.1+filB d7.2.1 d7.2.2.1 d7.2.2.2.1 n (List.set d7.2.2.2.2.2.1 (0+toNat (wr .i64 (d7.1-1))) (qcv d7)) (List.set d7.2.2.2.2.2.2.1 (0+toNat (wr .i64 ((↑(length x5):Int)-1))) (take (length (getD d7.2.2.2.2.2.2.1 (0+toNat (wr .i64 ((↑(length x5):Int)-1))) ([]:List Int))) (getD d7.2.2.2.2.2.2.1 (0+toNat (wr .i64 ((↑(length x5):Int)-1))) ([]:List Int))++d7.1::([]:List Int))),List.set (List.set d7.2.2.2.2.2.1 (0+toNat (wr .i64 (d7.1-1))) (qcv d7)) (0+toNat (wr .i64 (d7.1-1))) (wr .i64 (qkc d7+1)),List.set (List.set d7.2.2.2.2.2.2.1 (0+toNat (wr .i64 ((↑(length x5):Int)-1))) (take (length (getD d7.2.2.2.2.2.2.1 (0+toNat (wr .i64 ((↑(length x5):Int)-1))) ([]:List Int))) (getD d7.2.2.2.2.2.2.1 (0+toNat (wr .i64 ((↑(length x5):Int)-1))) ([]:List Int))++d7.1::([]:List Int))) (0+toNat (wr .i64 ((↑(length x5):Int)-1))) (take (toNat (wr .i64 (qfz x5 d7-1))) (getD (List.set d7.2.2.2.2.2.2.1 (0+toNat (wr .i64 ((↑(length x5):Int)-1))) (take (length (getD d7.2.2.2.2.2.2.1 (0+toNat (wr .i64 ((↑(length x5):Int)-1))) ([]:List Int))) (getD d7.2.2.2.2.2.2.1 (0+toNat (wr .i64 ((↑(length x5):Int)-1))) ([]:List Int))++d7.1::([]:List Int))) (0+toNat (wr .i64 ((↑(length x5):Int)-1))) ([]:List Int))),()):Int×List Int×List Int×Int×Int×List Int×List (List Int)×Unit)))))))))))))))))))))))))))))))))))))) else gd (length d7.2.2.2.2.2.1=length d7.2.2.2.2.2.1) (gd (length d7.2.2.2.2.2.2.1=length d7.2.2.2.2.2.2.1) (some (Lp.out ((true,d7.2.1,d7.2.2.1,d7.2.2.2.1,d7.2.2.2.2.1,d7.2.2.2.2.2.1,d7.2.2.2.2.2.2.1,()):Bool×List Int×List Int×Int×Int×List Int×List (List Int)×Unit))))) ((imax (imax 1 (wr .i64 (qqt x0 x5+1))) (qtf x0 x5),x0,x1,x2,x3,x4,x5,()):Int×List Int×List Int×Int×Int×List Int×List (List Int)×Unit)))))) else gd (length x4=length x4) (gd (length x5=length x5) (qbq (fun (d7:Int×List Int×List Int×Int×Int×List Int×List (List Int)×Unit)=>bif ile d7.1 d7.2.2.2.1 then gd (¬length d7.2.2.2.2.2.1=0) (gd (0≤wr .i64 (d7.1-1)∧wr .i64 (d7.1-1)<(↑(length d7.2.2.2.2.2.1):Int)) (gd (0+toNat (wr .i64 (d7.1-1))<length d7.2.2.2.2.2.1) (bif qlb d7 then gd (length d7.2.2.2.2.2.1=length d7.2.2.2.2.2.1) (gd (length d7.2.2.2.2.2.2.1=length d7.2.2.2.2.2.2.1) (some (Lp.go ((wr .i64 (d7.1+1),d7.2.1,d7.2.2.1,d7.2.2.2.1,d7.2.2.2.2.1,d7.2.2.2.2.2.1,d7.2.2.2.2.2.2.1,()):Int×List Int×List Int×Int×Int×List Int×List (List Int)×Unit)))) else gd (0≤wr .i64 (d7.1-1)∧wr .i64 (d7.1-1)<(↑(length d7.2.2.2.2.2.1):Int)) (gd (0+toNat (wr .i64 (d7.1-1))<length d7.2.2.2.2.2.1) (gd (0≤wr .i64 (d7.1-1)∧wr .i64 (d7.1-1)<(↑(length d7.2.2.2.2.2.1):Int)) (gd (0+toNat (wr .i64 (d7.1-1))<length d7.2.2.2.2.2.1) (gd (0≤wr .i64 ((↑(length x5):Int)-1)∧wr .i64 ((↑(length x5):Int)-1)<(↑(length d7.2.2.2.2.2.2.1):Int)) (gd (0+toNat (wr .i64 ((↑(length x5):Int)-1))<length d7.2.2.2.2.2.2.1) (gd (0+toNat (wr .i64 ((↑(length x5):Int)-1))<length d7.2.2.2.2.2.2.1) (gd (length (getD d7.2.2.2.2.2.2.1 (0+toNat (wr .i64 ((↑(length x5):Int)-1))) ([]:List Int))≤length (getD d7.2.2.2.2.2.2.1 (0+toNat (wr .i64 ((↑(length x5):Int)-1))) ([]:List Int))) (gd ((length (getD d7.2.2.2.2.2.2.1 (0+toNat (wr .i64 ((↑(length x5):Int)-1))) ([]:List Int))+1)*(8:Nat)≤1099511627776) (gd (0≤wr .i64 ((↑(length x5):Int)-1)∧wr .i64 ((↑(length x5):Int)-1)<(↑(length d7.2.2.2.2.2.2.1):Int)) (gd (0+toNat (wr .i64 ((↑(length x5):Int)-1))<length (List.set d7.2.2.2.2.2.2.1 (0+toNat (wr .i64 ((↑(length x5):Int)-1))) (take (length (getD d7.2.2.2.2.2.2.1 (0+toNat (wr .i64 ((↑(length x5):Int)-1))) ([]:List Int))) (getD d7.2.2.2.2.2.2.1 (0+toNat (wr .i64 ((↑(length x5):Int)-1))) ([]:List Int))++d7.1::([]:List Int)))) (gd (0+toNat (wr .i64 ((↑(length x5):Int)-1))=0+toNat (wr .i64 ((↑(length x5):Int)-1))) (gd (0+toNat (wr .i64 ((↑(length x5):Int)-1))=0+toNat (wr .i64 ((↑(length x5):Int)-1))) (gd (length (getD d7.2.2.2.2.2.2.1 (0+toNat (wr .i64 ((↑(length x5):Int)-1))) ([]:List Int))+1=length (getD (List.set d7.2.2.2.2.2.2.1 (0+toNat (wr .i64 ((↑(length x5):Int)-1))) (take (length (getD d7.2.2.2.2.2.2.1 (0+toNat (wr .i64 ((↑(length x5):Int)-1))) ([]:List Int))) (getD d7.2.2.2.2.2.2.1 (0+toNat (wr .i64 ((↑(length x5):Int)-1))) ([]:List Int))++d7.1::([]:List Int))) (0+toNat (wr .i64 ((↑(length x5):Int)-1))) ([]:List Int))) (gd (length d7.2.2.2.2.2.1=length (List.set d7.2.2.2.2.2.1 (0+toNat (wr .i64 (d7.1-1))) (qb0 d7))) (gd (length d7.2.2.2.2.2.2.1=length (List.set d7.2.2.2.2.2.2.1 (0+toNat (wr .i64 ((↑(length x5):Int)-1))) (take (length (getD d7.2.2.2.2.2.2.1 (0+toNat (wr .i64 ((↑(length x5):Int)-1))) ([]:List Int))) (getD d7.2.2.2.2.2.2.1 (0+toNat (wr .i64 ((↑(length x5):Int)-1))) ([]:List Int))++d7.1::([]:List Int)))) (gd (preB n d7.2.1 d7.2.2.1 (List.set d7.2.2.2.2.2.1 (0+toNat (wr .i64 (d7.1-1))) (qb0 d7)) d7.2.2.2.1 (List.set d7.2.2.2.2.2.2.1 (0+toNat (wr .i64 ((↑(length x5):Int)-1))) (take (length (getD d7.2.2.2.2.2.2.1 (0+toNat (wr .i64 ((↑(length x5):Int)-1))) ([]:List Int))) (getD d7.2.2.2.2.2.2.1 (0+toNat (wr .i64 ((↑(length x5):Int)-1))) ([]:List Int))++d7.1::([]:List Int))) d7.2.2.2.2.1) (gd (0≤wr .i64 ((↑(length x5):Int)-1)∧wr .i64 ((↑(length x5):Int)-1)<(↑(length (List.set d7.2.2.2.2.2.2.1 (0+toNat (wr .i64 ((↑(length x5):Int)-1))) (take (length (getD d7.2.2.2.2.2.2.1 (0+toNat (wr .i64 ((↑(length x5):Int)-1))) ([]:List Int))) (getD d7.2.2.2.2.2.2.1 (0+toNat (wr .i64 ((↑(length x5):Int)-1))) ([]:List Int))++d7.1::([]:List Int)))):Int)) (gd (0+toNat (wr .i64 ((↑(length x5):Int)-1))<length (List.set d7.2.2.2.2.2.2.1 (0+toNat (wr .i64 ((↑(length x5):Int)-1))) (take (length (getD d7.2.2.2.2.2.2.1 (0+toNat (wr .i64 ((↑(length x5):Int)-1))) ([]:List Int))) (getD d7.2.2.2.2.2.2.1 (0+toNat (wr .i64 ((↑(length x5):Int)-1))) ([]:List Int))++d7.1::([]:List Int)))) (gd (0≤wr .i64 ((↑(length x5):Int)-1)∧wr .i64 ((↑(length x5):Int)-1)<(↑(length (List.set d7.2.2.2.2.2.2.1 (0+toNat (wr .i64 ((↑(length x5):Int)-1))) (take (length (getD d7.2.2.2.2.2.2.1 (0+toNat (wr .i64 ((↑(length x5):Int)-1))) ([]:List Int))) (getD d7.2.2.2.2.2.2.1 (0+toNat (wr .i64 ((↑(length x5):Int)-1))) ([]:List Int))++d7.1::([]:List Int)))):Int)) (gd (0+toNat (wr .i64 ((↑(length x5):Int)-1))<length (List.set d7.2.2.2.2.2.2.1 (0+toNat (wr .i64 ((↑(length x5):Int)-1))) (take (length (getD d7.2.2.2.2.2.2.1 (0+toNat (wr .i64 ((↑(length x5):Int)-1))) ([]:List Int))) (getD d7.2.2.2.2.2.2.1 (0+toNat (wr .i64 ((↑(length x5):Int)-1))) ([]:List Int))++d7.1::([]:List Int)))) (gd (0≤wr .i64 (qeh x5 d7-1)∧wr .i64 (qeh x5 d7-1)≤(↑(length (getD (List.set d7.2.2.2.2.2.2.1 (0+toNat (wr .i64 ((↑(length x5):Int)-1))) (take (length (getD d7.2.2.2.2.2.2.1 (0+toNat (wr .i64 ((↑(length x5):Int)-1))) ([]:List Int))) (getD d7.2.2.2.2.2.2.1 (0+toNat (wr .i64 ((↑(length x5):Int)-1))) ([]:List Int))++d7.1::([]:List Int))) (0+toNat (wr .i64 ((↑(length x5):Int)-1))) ([]:List Int))):Int)) (gd (0≤wr .i64 ((↑(length x5):Int)-1)∧wr .i64 ((↑(length x5):Int)-1)<(↑(length (List.set d7.2.2.2.2.2.2.1 (0+toNat (wr .i64 ((↑(length x5):Int)-1))) (take (length (getD d7.2.2.2.2.2.2.1 (0+toNat (wr .i64 ((↑(length x5):Int)-1))) ([]:List Int))) (getD d7.2.2.2.2.2.2.1 (0+toNat (wr .i64 ((↑(length x5):Int)-1))) ([]:List Int))++d7.1::([]:List Int)))):Int)) (gd (0+toNat (wr .i64 ((↑(length x5):Int)-1))<length (List.set d7.2.2.2.2.2.2.1 (0+toNat (wr .i64 ((↑(length x5):Int)-1))) (take (length (getD d7.2.2.2.2.2.2.1 (0+toNat (wr .i64 ((↑(length x5):Int)-1))) ([]:List Int))) (getD d7.2.2.2.2.2.2.1 (0+toNat (wr .i64 ((↑(length x5):Int)-1))) ([]:List Int))++d7.1::([]:List Int)))) (gd (0+toNat (wr .i64 ((↑(length x5):Int)-1))=0+toNat (wr .i64 ((↑(length x5):Int)-1))) (gd (toNat (wr .i64 (qeh x5 d7-1))≤length (getD (List.set d7.2.2.2.2.2.2.1 (0+toNat (wr .i64 ((↑(length x5):Int)-1))) (take (length (getD d7.2.2.2.2.2.2.1 (0+toNat (wr .i64 ((↑(length x5):Int)-1))) ([]:List Int))) (getD d7.2.2.2.2.2.2.1 (0+toNat (wr .i64 ((↑(length x5):Int)-1))) ([]:List Int))++d7.1::([]:List Int))) (0+toNat (wr .i64 ((↑(length x5):Int)-1))) ([]:List Int))) (gd (¬length (List.set d7.2.2.2.2.2.1 (0+toNat (wr .i64 (d7.1-1))) (qb0 d7))=0) (gd (0≤wr .i64 (d7.1-1)∧wr .i64 (d7.1-1)<(↑(length (List.set d7.2.2.2.2.2.1 (0+toNat (wr .i64 (d7.1-1))) (qb0 d7))):Int)) (gd (0+toNat (wr .i64 (d7.1-1))<length (List.set d7.2.2.2.2.2.1 (0+toNat (wr .i64 (d7.1-1))) (qb0 d7))) (gd (0≤wr .i64 (d7.1-1)∧wr .i64 (d7.1-1)<(↑(length (List.set d7.2.2.2.2.2.1 (0+toNat (wr .i64 (d7.1-1))) (qb0 d7))):Int)) (gd (0+toNat (wr .i64 (d7.1-1))<length (List.set d7.2.2.2.2.2.1 (0+toNat (wr .i64 (d7.1-1))) (qb0 d7))) (gd (length (List.set d7.2.2.2.2.2.1 (0+toNat (wr .i64 (d7.1-1))) (qb0 d7))=length (List.set (List.set d7.2.2.2.2.2.1 (0+toNat (wr .i64 (d7.1-1))) (qb0 d7)) (0+toNat (wr .i64 (d7.1-1))) (wr .i64 (qg4 d7+1)))) (gd (length (List.set d7.2.2.2.2.2.2.1 (0+toNat (wr .i64 ((↑(length x5):Int)-1))) (take (length (getD d7.2.2.2.2.2.2.1 (0+toNat (wr .i64 ((↑(length x5):Int)-1))) ([]:List Int))) (getD d7.2.2.2.2.2.2.1 (0+toNat (wr .i64 ((↑(length x5):Int)-1))) ([]:List Int))++d7.1::([]:List Int)))=length (List.set (List.set d7.2.2.2.2.2.2.1 (0+toNat (wr .i64 ((↑(length x5):Int)-1))) (take (length (getD d7.2.2.2.2.2.2.1 (0+toNat (wr .i64 ((↑(length x5):Int)-1))) ([]:List Int))) (getD d7.2.2.2.2.2.2.1 (0+toNat (wr .i64 ((↑(length x5):Int)-1))) ([]:List Int))++d7.1::([]:List Int))) (0+toNat (wr .i64 ((↑(length x5):Int)-1))) (take (toNat (wr .i64 (qeh x5 d7-1))) (getD (List.set d7.2.2.2.2.2.2.1 (0+toNat (wr .i64 ((↑(length x5):Int)-1))) (take (length (getD d7.2.2.2.2.2.2.1 (0+toNat (wr .i64 ((↑(length x5):Int)-1))) ([]:List Int))) (getD d7.2.2.2.2.2.2.1 (0+toNat (wr .i64 ((↑(length x5):Int)-1))) ([]:List Int))++d7.1::([]:List Int))) (0+toNat (wr .i64 ((↑(length x5):Int)-1))) ([]:List Int))))) (some (Lp.go ((wr .i64 (d7.1+1),d7.2.1,d7.2.2.1,d7.2.2.2.1,d7.2.2.2.2.1+filB d7.2.1 d7.2.2.1 d7.2.2.2.1 n (List.set d7.2.2.2.2.2.1 (0+toNat (wr .i64 (d7.1-1))) (qb0 d7)) (List.set d7.2.2.2.2.2.2.1 (0+toNat (wr .i64 ((↑(length x5):Int)-1))) (take (length (getD d7.2.2.2.2.2.2.1 (0+toNat (wr .i64 ((↑(length x5):Int)-1))) ([]:List Int))) (getD d7.2.2.2.2.2.2.1 (0+toNat (wr .i64 ((↑(length x5):Int)-1))) ([]:List Int))++d7.1::([]:List Int))),List.set (List.set d7.2.2.2.2.2.1 (0+toNat (wr .i64 (d7.1-1))) (qb0 d7)) (0+toNat (wr .i64 (d7.1-1))) (wr .i64 (qg4 d7+1)),List.set (List.set d7.2.2.2.2.2.2.1 (0+toNat (wr .i64 ((↑(length x5):Int)-1))) (take (length (getD d7.2.2.2.2.2.2.1 (0+toNat (wr .i64 ((↑(length x5):Int)-1))) ([]:List Int))) (getD d7.2.2.2.2.2.2.1 (0+toNat (wr .i64 ((↑(length x5):Int)-1))) ([]:List Int))++d7.1::([]:List Int))) (0+toNat (wr .i64 ((↑(length x5):Int)-1))) (take (toNat (wr .i64 (qeh x5 d7-1))) (getD (List.set d7.2.2.2.2.2.2.1 (0+toNat (wr .i64 ((↑(length x5):Int)-1))) (take (length (getD d7.2.2.2.2.2.2.1 (0+toNat (wr .i64 ((↑(length x5):Int)-1))) ([]:List Int))) (getD d7.2.2.2.2.2.2.1 (0+toNat (wr .i64 ((↑(length x5):Int)-1))) ([]:List Int))++d7.1::([]:List Int))) (0+toNat (wr .i64 ((↑(length x5):Int)-1))) ([]:List Int))),()):Int×List Int×List Int×Int×Int×List Int×List (List Int)×Unit)))))))))))))))))))))))))))))))))))))) else gd (length d7.2.2.2.2.2.1=length d7.2.2.2.2.2.1) (gd (length d7.2.2.2.2.2.2.1=length d7.2.2.2.2.2.2.1) (some (Lp.out ((true,d7.2.1,d7.2.2.1,d7.2.2.2.1,d7.2.2.2.2.1,d7.2.2.2.2.2.1,d7.2.2.2.2.2.2.1,()):Bool×List Int×List Int×Int×Int×List Int×List (List Int)×Unit))))) ((imax 1 (wr .i64 (qqt x0 x5+1)),x0,x1,x2,x3,x4,x5,()):Int×List Int×List Int×Int×Int×List Int×List (List Int)×Unit))))))))))))))))))))))))))))
noncomputable def qx4:List LSh:=LSh.mk3 (((0,TV.ref (0) 1 0 0):Nat×TV)::((1,TV.fn (45) (TV.cons (TV.ref (1) 1 0 0) (TV.cons (TV.ref (2) 1 0 0) TV.nil))):Nat×TV)::((9,TV.v (Ty.int .i64)):Nat×TV)::([]:List (Nat×TV))) (TB.cells (TV.v (Ty.slice (Ty.int .i64))::TV.v (Ty.slice (Ty.int .i64))::TV.slf (3) (1)::TV.v (Ty.int .i64)::TV.slf (5) (1)::([]:List TV))::TB.cells (TV.fn (24) TV.nil::([]:List TV))::TB.cells (TV.v (Ty.int .i64)::([]:List TV))::TB.arr (Ty.int .i64) true::TB.dead::TB.nest (Ty.int .i64)::([]:List TB)) (5)::([]:List LSh)
abbrev P68b (f:Nat):List TB:=[.cells [.fn f .nil],.cells [.v I64]]
def qrg (inner outer m:List Int):Int:=if wr .i64 (boxW outer-boxW inner)=boxW m then filB inner outer m.length 81 m [] else 0
noncomputable def qou:SCon:=mkS 44 [.v LI,.v LI,.v LI,F109 0] (P68b 24) [] (P68b 24) (fun (inner outer m:List Int) (out:Int)=>[okIn inner outer m∧qgx m=true∧0≤out∧out≤1000000]) (fun (inner outer m:List Int) (out:Int)=>(out+qrg inner outer m,()))
noncomputable def g68b (x0 x1 x2:List Int) (x3:Int):Option (Int×Unit):=gd (List.length x1≤1000) (gd (List.length x0≤1000) (gd (List.length x2≤1000) (bif !ieq (wr .i64 (boxW x1-boxW x0)) (boxW x2) then some ((x3,()):Int×Unit) else gd ((0:Nat)≤0) (gd ((0+List.length x2)*(8:Nat)≤1099511627776) (gd (0+List.length x2=List.length x2) (gd ((0:Nat)=0) (gd (preB 81 x0 x1 x2 (↑(List.length x2):Int) ([]:List (List Int)) x3) (some ((x3+filB x0 x1 (↑(List.length x2):Int) 81 x2 ([]:List (List Int)),()):Int×Unit)))))))))
noncomputable def qxx:List LSh:=([]:List LSh)
noncomputable def qof:Con:=mkC 23 [.d LI,.d LI,.d LI,.fn 24 []] [I64] (fun (inner outer m:List Int)=>[okIn inner outer m∧qgx m=true]) (fun (inner outer m:List Int)=>(qrg inner outer m,()))
noncomputable def g71b (x0 x1 x2:List Int):Option (Int×Unit):=gd (okIn x0 x1 x2∧qgx x2=true∧(0:Int)≤0∧(0:Int)≤1000000) (some ((0+qrg x0 x1 x2,()):Int×Unit))
noncomputable def qzm:List LSh:=([]:List LSh)
def kosF (l m:List Int):Int×Int×Unit:=if qdd l=true∧qgx m=true then (qrg [] l m,0,()) else (0,2,())
noncomputable def qq5:Con:=mkC 9 [.d LI,.d LI] [I64,I64] (fun (l m:List Int)=>[l.length≤1000∧m.length≤1000]) (fun (l m:List Int)=>kosF l m)
noncomputable def g21 (x0 x1:List Int):Option (Int×Int×Unit):=gd (List.length x0≤1000) (gd ((!!qdd x0)=true→(!!qdd x0)=true∧List.length x1≤1000) (gd ((!!qdd x0)=true→(!!qdd x0)=true) (gd ((!qdd x0)=false→(!!qdd x0)=true) (bif bif !qdd x0 then true else !qgx x1 then some ((0,2,()):Int×Int×Unit) else gd (okIn ([]:List Int) x0 x1∧qgx x1=true) (some ((qrg ([]:List Int) x0 x1,0,()):Int×Int×Unit))))))
noncomputable def q1m:List LSh:=([]:List LSh)
theorem q6j:qv4.goal Try.prog (spOf []) q1n [] lm30:=by
 have e:(∀ (rows:List (List Int)),g72 rows=some (true,()))=qv4.goal Try.prog (spOf []) q1n [] lm30:=by kernel_rfl
 rw [← e];intro rows;rfl
theorem ok72:qv4.Ok Try.prog:=Con.of_goal mixed okN qv4 q6j
theorem q07:qj2.goal Try.prog (spS [] [qv4]) que [900000] lm30:=by
 have e:(∀ (rows:List (List Int)) (out:Int),(0≤out∧out≤500000000)→q63 rows out=some (true,rows,out+1,()))=qj2.goal Try.prog (spS [] [qv4]) que [900000] lm30:=by kernel_rfl
 rw [← e];rintro rows out ⟨h1,h2⟩;unfold q63;rw [qal (by omega),qc8 (by omega)]
theorem q6k:qj2.Ok Try.prog:=SCon.of_goal mixed (okC ok72 okN) okS0 qj2 q07
theorem e77b (n:Nat):(∀ (inner outer:List Int) (most:Int) (out:Int) (left:List Int) (rows:List (List Int)),preB (n+1) inner outer left most rows out→g77b n inner outer most out left rows=some (true,inner,outer,most,out+filB inner outer most (n+1) left rows,left,rows,()))=(qgh (n+1)).goal Try.prog (spS [qj2,qgh n] [qko,qn3]) qx4 ms77 lm30:=by kernel_rfl
theorem q5f (n:Nat):(qgh (n+1)).goal Try.prog (spS [qj2,qgh n] [qko,qn3]) qx4 ms77 lm30:=by
 rw [← e77b];rintro inner outer most out left rows ⟨hp,ho,hb⟩;have hcap:=hp.capR;have hmo:=hp.mo;have hil:=hp.il;have hol:=hp.ol;have hw2:wr .i64 ((rows.length:Int)-1+1)=(rows.length:Int):=(qc8 (by omega)).trans (by omega)
 have hw1:wr .i64 ((rows.length:Int)-1)=(rows.length:Int)-1:=qc8 (by omega)
 unfold g77b;simp only [hw1,hw2];have hn:(!ilt ((rows.length:Int)-1) 0)=true→0≤(rows.length:Int)-1:=fun h=>by
  by_cases h0:(rows.length:Int)-1<0
  ·rw [qd7.2 h0] at h;cases h
  ·omega
 have hc1:qpc inner outer rows=full inner outer rows:=by
  rcases List.eq_nil_or_concat rows with rfl | ⟨R,r,rfl⟩
  ·have h0:ilt (wr .i64 (((([]:List (List Int)).length:Nat):Int)-1)) 0=true:=by decide
   unfold qpc;rw [h0];rfl
  ·rw [List.concat_eq_append] at *;rw [qpw];unfold qpc qgq;simp only [hw1];have h1:(((R++[r]).length:Nat):Int)-1=R.length:=by simp
   rw [h1];have h2:ilt (R.length:Int) 0=false:=qch.2 (by omega)
   have h3:=hp.i0 R.length;have h4:=hp.o8 R.length;have h5:=hp.ins R.length;have h6:=hcap.2 r (by simp)
   rw [h2,wbd,wa8,wad,qct,qc8 (by omega)]
   rfl
 simp only [imp_self,qbl];rw [qal (by intro h;exact ⟨h,h,hn h,by omega⟩),qal (by intro h;exact ⟨h,h,hn h,by omega⟩),qal (by intro h;have:=hn h;exact ⟨h,by omega⟩),qal (by intro h;exact ⟨h,h⟩),qal (by intro h;exact ⟨h,h,hn h,by omega⟩),qal (by intro h;exact ⟨h,h⟩),qal (by intro h;simp [h]),hc1]
 cases hf:full inner outer rows with
 | true =>
  rw [wbe]
  by_cases hl:rows.length=outer.length
  ·have h1:ieq (rows.length:Int) (outer.length:Int)=true:=by rw [hl];exact qbx.2 rfl
   rw [h1,wbe];simp only [filB,fil,hf,if_true,if_pos hl];have hb2:out+1≤500000000:=by simpa [fil,hf,hl] using hb
   rw [qal ⟨ho,by omega⟩]
   rfl
  ·have h1:ieq (rows.length:Int) (outer.length:Int)=false:=qgz.2 (by omega)
   have h2:preB n inner outer left most (rows++[[]]) out:=⟨hp.open_ hf hl,ho,by simpa only [fil,hf,if_true,if_neg hl] using hb⟩
   simp only [h1,wbd,wba,filB,fil,hf,if_true,if_neg hl];rw [qal (wae _),qal (by omega),qal (by simp),qal h2,qal (by simp;omega),qal (by simp)]
   simp
 | false =>
  rw [wbd]
  rcases List.eq_nil_or_concat rows with rfl | ⟨R,r,rfl⟩
  ·simp [full] at hf
  simp only [List.concat_eq_append] at *;have hlen:(((R++[r]).length:Nat):Int)-1=R.length:=by simp
  simp only [hlen] at hw1 hn ⊢;have hR:(R++[r]).length=R.length+1:=by simp
  have hr8:=hcap.2 r (by simp)
  have hlt:=hp.lt8 hf;have hi0:=hp.i0 R.length;have ho8:=hp.o8 R.length;have hR8:R.length+1≤8:=by rw [← hR];exact hcap.1
  have hc0:qgq inner (R++[r])=rowF inner R.length+r.length:=by
   unfold qgq;rw [hlen,hw1,wa8,wad,qct,qc8 (by omega)]
  have hw3:wr .i64 ((R.length:Int)-1)=(R.length:Int)-1:=qc8 (by omega)
  have hw4:wr .i64 (rowF inner R.length+r.length-1)=rowF inner R.length+r.length-1:=qc8 (by omega)
  have ha1:atP inner (R++[r]) ((R.length:Int)-1) (rowF inner R.length+r.length):=by
   refine ⟨by omega,by rw [hR];omega,by omega,by omega,fun h=>?_⟩
   have h1:=hp.fl (R.length-1) (by rw [hR];omega)
   have h2:(((R.length-1:Nat)):Int)=(R.length:Int)-1:=by omega
   rw [h2] at h1;have h3:=hp.i0 (R.length-1);have h4:=hp.o8 (R.length-1);have h5:=hp.od (R.length-1);have h6:((R.length-1+1:Nat):Int)=R.length:=by omega
   rw [h2] at h3 h4 h5;rw [h6] at h5;rw [show ((R.length:Int)-1).toNat=R.length-1 by omega]
   omega
  have ha2:r≠[]→atP inner (R++[r]) R.length (rowF inner R.length+r.length-1):=by
   intro hne;have:=List.length_pos_iff.2 hne;refine ⟨by omega,by rw [hR];omega,by omega,by omega,fun h=>?_⟩
   rw [wad,qct];omega
  have hv2:r≠[]→atF inner (R++[r]) R.length (rowF inner R.length+r.length-1)=r.getLastD 0:=by
   intro hne;have:=List.length_pos_iff.2 hne;unfold atF;rw [if_neg (by omega),wad,qct,show (rowF inner R.length+r.length-1-rowF inner R.length).toNat=r.length-1 by omega]
   rw [List.getLastD_eq_getLast?,List.getLast?_eq_getElem?,waa]
  have hb1:=q67 (inner:=inner) (i:=(R.length:Int)-1) (j:=rowF inner R.length+r.length) hmo.1 hp.ent;have hc2:qqt inner (R++[r])=atF inner (R++[r]) ((R.length:Int)-1) (rowF inner R.length+r.length):=by
   unfold qqt;rw [wbq,wba,hlen,hc0,qc8 (n:=(R.length:Int)) (by omega),hw3]
  have hc3:qto (R++[r])=decide (r≠[]):=by
   unfold qto;rw [hlen,qc8 (n:=(R.length:Int)) (by omega),wa8,wad,qct]
   cases r<;>simp [ilt]
  have hc4:r≠[]→qtf inner (R++[r])=r.getLastD 0:=by
   intro hne;unfold qtf;rw [wbq,wba,hlen,hc0,qc8 (n:=(R.length:Int)) (by omega),hw4,hv2 hne]
  have hw5:wr .i64 (atF inner (R++[r]) ((R.length:Int)-1) (rowF inner R.length+r.length)+1)=atF inner (R++[r]) ((R.length:Int)-1) (rowF inner R.length+r.length)+1:=qc8 (by omega)
  have hlf:=hp.lf rfl;simp only [filB,fil,hf] at hb ⊢;have hL:qh0 inner (R++[r])=if r=[] then max 1 (atF inner (R++[r]) ((R.length:Int)-1) (rowF inner R.length+r.length)+1) else max (max 1 (atF inner (R++[r]) ((R.length:Int)-1) (rowF inner R.length+r.length)+1)) (r.getLastD 0):=by
   unfold qh0;rw [qk6,show (((R++[r]).length:Nat):Int)-2=(R.length:Int)-1 by omega,hlen]
  have hL1:1≤qh0 inner (R++[r]):=by rw [hL];split<;>omega
  simp only [wa3,if_false] at hb ⊢;simp only [hc0,hc2,hw3,hw4,hw5,hc3,wbq,wba,wa8,wad,qal ha1];rw [qal ⟨by omega,by omega⟩,qal (by omega)]
  have hmem:∀ p:Nat,p<left.length→0≤left.getD p 0∧left.getD p 0≤8:=fun p hp=>by
   rw [waa,wab hp];exact hlf.2 _ (waq hp)
  have hpre:∀ (p:Nat) (s:Int),p<left.length→left.getD p 0≠0→0≤s∧s+(useX left false ((p:Int)+1) fun l=>fil inner outer most false n l (addX (R++[r]) ((p:Int)+1))).length≤500000000→preB n inner outer (left.set p (left.getD p 0-1)) most (R++[r++[(p:Int)+1]]) s:=by
   intro p s hp1 hp2 hs;have h1:=hmem p hp1;have e1:((p:Int)+1-1).toNat=p:=by omega
   simp only [useX,wa3,if_false,e1,if_neg hp2,qpv] at hs;refine ⟨hp.box hf ⟨by omega,by omega⟩ (fun _=>⟨by simpa using hlf.1,fun y hy=>?_⟩),hs.1,hs.2⟩
   rcases List.mem_or_eq_of_mem_set hy with h2 | h2
   ·exact hlf.2 y h2
   ·omega
  rcases Decidable.em (r=[]) with hr | hr
  ·rw [decide_eq_false (by simp [hr]),wbd]
   rw [if_pos hr] at hL;rw [qs8,← hL];rw [qal (by omega),qal (wae _),qal (wae _),qal ⟨by omega,by omega⟩,qal (by omega)]
   refine qha (fun (s:Int) b=>s+(b.length:Int)) (fun (s:Int) b=>0≤s∧s+(b.length:Int)≤500000000) (fun s=>by simp) (fun s a b=>by simp only [waf];omega) (fun s a b h=>by simp only [waf] at h ⊢;omega)
    (fun x s=>(x,inner,outer,most,s,left,R++[r],())) (fun s=>(true,inner,outer,most,s,left,R++[r],())) (fun x=>useX left false x fun l=>fil inner outer most false n l (addX (R++[r]) x)) (qh0 inner (R++[r])) most ?_ ?_ _ _ out (Int.le_refl _) rfl ⟨ho,hb⟩
   ·intro x s hx1 hx2 hs;obtain ⟨p,rfl⟩:∃ p:Nat,x=(p:Int)+1:=⟨(x-1).toNat,by omega⟩
    have hpl:p<left.length:=by omega
    have hq:ile ((p:Int)+1) most=true:=ql6.2 hx2;have hx:wr .i64 ((p:Int)+1-1)=p:=(qc8 (by omega)).trans (by omega)
    have hx':wr .i64 ((p:Int)+1+1)=(p:Int)+1+1:=qc8 (by omega)
    have e1:((p:Int)+1-1).toNat=p:=by omega
    have hv:=hmem p hpl;simp only [qlz,qcv,qfz,qkc,qlb,qb0,qeh,qg4,wa8,hq,wbe,hx,hx',wad,qct,qpi,hR,useX,wa3,if_false,e1,qpv];rw [qal (by omega),qal ⟨by omega,by omega⟩,qal (by omega)]
    by_cases h0:left.getD p 0=0
    ·rw [qbx.2 h0,wbe,if_pos h0];simp
    ·rw [qgz.2 h0,wbd,if_neg h0];have hpr:=hpre p s hpl h0 hs;have h9:wr .i64 (left.getD p 0-1)=left.getD p 0-1:=qc8 (by omega)
     have h7:(left.set p (left.getD p 0-1)).getD p 0=left.getD p 0-1:=by simp [waa,wax,hpl]
     have h8:wr .i64 (left.getD p 0-1+1)=left.getD p 0:=(qc8 (by omega)).trans (by omega)
     have h6:(left.set p (left.getD p 0-1)).set p (left.getD p 0)=left:=by
      have:=qtx hpl
      rwa [h7,Int.sub_add_cancel] at this
     have h5:wr .i64 (((r.length+1:Nat):Int)-1)=r.length:=(qc8 (by omega)).trans (by omega)
     have h4:List.take r.length (r++[(p:Int)+1])=r:=by simp
     have h3:(R++[r++[(p:Int)+1]]).length=R.length+1:=by simp
     have h2:(r++[(p:Int)+1]).length=r.length+1:=by simp
     have q1:(0≤(p:Int)∧(p:Int)<(left.length:Int))=True:=eq_true ⟨by omega,by omega⟩
     have q2:(0≤(R.length:Int)∧(R.length:Int)<((R.length+1:Nat):Int))=True:=eq_true ⟨by omega,by omega⟩
     have q3:(left.length=0)=False:=eq_false (by omega)
     have q4:((r.length+1)*8≤1099511627776)=True:=eq_true (by omega)
     have q5:(0≤(r.length:Int)∧(r.length:Int)≤((r.length+1:Nat):Int))=True:=eq_true ⟨by omega,by omega⟩
     have h1:wr .i64 (((R.length+1:Nat):Int)-1)=R.length:=(qc8 (by omega)).trans (by omega)
     simp only [qlz,qcv,qfz,qkc,qlb,qb0,qeh,qg4,hlen,hw1,hx,h1,wba,h9,h7,h8,h6,h5,h4,h3,h2,hR,q1,q2,q3,q4,q5,wa8,wad,qct,qpi,wak,Nat.lt_succ_self,wae,qbl,not_false_eq_true,hpl,Nat.le_succ,qal hpr]
   ·intro x s hx;simp only [qlj.2 hx,wbd]
  ·rw [decide_eq_true hr,wbe,qal (ha2 hr)];rw [if_neg hr] at hL;rw [hc4 hr,qs8,qs8,← hL]
   repeat rw [qal (by omega)]
   repeat rw [qal ⟨by omega,by omega⟩]
   repeat rw [qal (by omega)]
   refine qha (fun (s:Int) b=>s+(b.length:Int)) (fun (s:Int) b=>0≤s∧s+(b.length:Int)≤500000000) (fun s=>by simp) (fun s a b=>by simp only [waf];omega) (fun s a b h=>by simp only [waf] at h ⊢;omega)
    (fun x s=>(x,inner,outer,most,s,left,R++[r],())) (fun s=>(true,inner,outer,most,s,left,R++[r],())) (fun x=>useX left false x fun l=>fil inner outer most false n l (addX (R++[r]) x)) (qh0 inner (R++[r])) most ?_ ?_ _ _ out (Int.le_refl _) rfl ⟨ho,hb⟩
   ·intro x s hx1 hx2 hs;obtain ⟨p,rfl⟩:∃ p:Nat,x=(p:Int)+1:=⟨(x-1).toNat,by omega⟩
    have hpl:p<left.length:=by omega
    have hq:ile ((p:Int)+1) most=true:=ql6.2 hx2;have hx:wr .i64 ((p:Int)+1-1)=p:=(qc8 (by omega)).trans (by omega)
    have hx':wr .i64 ((p:Int)+1+1)=(p:Int)+1+1:=qc8 (by omega)
    have e1:((p:Int)+1-1).toNat=p:=by omega
    have hv:=hmem p hpl;simp only [qlz,qcv,qfz,qkc,qlb,qb0,qeh,qg4,wa8,hq,wbe,hx,hx',wad,qct,qpi,hR,useX,wa3,if_false,e1,qpv];rw [qal (by omega),qal ⟨by omega,by omega⟩,qal (by omega)]
    by_cases h0:left.getD p 0=0
    ·rw [qbx.2 h0,wbe,if_pos h0];simp
    ·rw [qgz.2 h0,wbd,if_neg h0];have hpr:=hpre p s hpl h0 hs;have h9:wr .i64 (left.getD p 0-1)=left.getD p 0-1:=qc8 (by omega)
     have h7:(left.set p (left.getD p 0-1)).getD p 0=left.getD p 0-1:=by simp [waa,wax,hpl]
     have h8:wr .i64 (left.getD p 0-1+1)=left.getD p 0:=(qc8 (by omega)).trans (by omega)
     have h6:(left.set p (left.getD p 0-1)).set p (left.getD p 0)=left:=by
      have:=qtx hpl
      rwa [h7,Int.sub_add_cancel] at this
     have h5:wr .i64 (((r.length+1:Nat):Int)-1)=r.length:=(qc8 (by omega)).trans (by omega)
     have h4:List.take r.length (r++[(p:Int)+1])=r:=by simp
     have h3:(R++[r++[(p:Int)+1]]).length=R.length+1:=by simp
     have h2:(r++[(p:Int)+1]).length=r.length+1:=by simp
     have q1:(0≤(p:Int)∧(p:Int)<(left.length:Int))=True:=eq_true ⟨by omega,by omega⟩
     have q2:(0≤(R.length:Int)∧(R.length:Int)<((R.length+1:Nat):Int))=True:=eq_true ⟨by omega,by omega⟩
     have q3:(left.length=0)=False:=eq_false (by omega)
     have q4:((r.length+1)*8≤1099511627776)=True:=eq_true (by omega)
     have q5:(0≤(r.length:Int)∧(r.length:Int)≤((r.length+1:Nat):Int))=True:=eq_true ⟨by omega,by omega⟩
     have h1:wr .i64 (((R.length+1:Nat):Int)-1)=R.length:=(qc8 (by omega)).trans (by omega)
     simp only [qlz,qcv,qfz,qkc,qlb,qb0,qeh,qg4,hlen,hw1,hx,h1,wba,h9,h7,h8,h6,h5,h4,h3,h2,hR,q1,q2,q3,q4,q5,wa8,wad,qct,qpi,wak,Nat.lt_succ_self,wae,qbl,not_false_eq_true,hpl,Nat.le_succ,qal hpr]
   ·intro x s hx;simp only [qlj.2 hx,wbd]
theorem q2l:(qgh 0).Ok Try.prog:=qdc _ (by kernel_rfl) (by
 have e:(∀ (inner outer:List Int) (most:Int) (out:Int) (left:List Int) (rows:List (List Int)) (p:List Prop),some [preB 0 inner outer left most rows out]=some p→¬ allP p)=(allD ((qgh 0).ins.flatMap TV.ts++tsB (qgh 0).ibl) fun env=>∀ p,(qgh 0).pre env=some p→¬ allP p):=by kernel_rfl
 rw [← e];intro inner outer most out left rows p hp hq;cases hp;exact absurd (Ab.allP_one.1 hq).1.mu (by omega))
theorem q6a:∀ n,(qgh n).Ok Try.prog
 | 0=>q2l
 | n+1=>SCon.of_goal mixed (okC q6l (okC q8c okN)) (okS q6k (okS (q6a n) okS0)) (qgh (n+1)) (q5f n)
theorem q4v:qou.goal Try.prog (spS [qgh 81] [qkx]) qxx [18] lm30:=by
 have e:(∀ (inner outer m:List Int) (out:Int),(okIn inner outer m∧qgx m=true∧0≤out∧out≤1000000)→g68b inner outer m out=some (out+qrg inner outer m,()))=qou.goal Try.prog (spS [qgh 81] [qkx]) qxx [18] lm30:=by kernel_rfl
 rw [← e];rintro inner outer m out ⟨h,hm,ho,hb⟩;have h1:=h.il;have h2:=h.ol;have h3:=h.ml;have h4:=q6y (inner:=inner) (outer:=outer) hm;unfold g68b;rw [qal (by omega),qal (by omega),qal (by omega)]
 unfold qrg
 by_cases hs:wr .i64 (boxW outer-boxW inner)=boxW m
 ·rw [if_pos hs];rw [qbx.2 hs];simp only [Bool.not_true,wbd];rw [qal (by omega),qal (by omega),qal (by omega)]
  simp only [qbl];rw [qal ⟨h.pre,ho,by omega⟩]
 ·rw [if_neg hs,qgz.2 hs];simp [qbl]
theorem q7u:qou.Ok Try.prog:=SCon.of_goal mixed (okC ok86 okN) (okS (q6a 81) okS0) qou q4v
theorem q3x:qof.goal Try.prog (spS [qou] []) qzm [] lm30:=by
 have e:(∀ (inner outer m:List Int),(okIn inner outer m∧qgx m=true)→g71b inner outer m=some (qrg inner outer m,()))=qof.goal Try.prog (spS [qou] []) qzm [] lm30:=by kernel_rfl
 rw [← e];rintro inner outer m ⟨h,hm⟩;unfold g71b;rw [qal ⟨h,hm,by omega,by omega⟩,Int.zero_add]
theorem q71:qof.Ok Try.prog:=Con.of_goalS mixed okN (okS q7u okS0) qof q3x
theorem q7e:qq5.goal Try.prog (spOf [qu8,qu9,qof]) q1m [] lm30:=by
 have e:(∀ (l m:List Int),(l.length≤1000∧m.length≤1000)→g21 l m=some (kosF l m))=qq5.goal Try.prog (spOf [qu8,qu9,qof]) q1m [] lm30:=by kernel_rfl
 rw [← e];rintro l m ⟨h1,h2⟩;unfold g21 kosF;rw [qal h1]
 cases hs:qdd l with
 | false=>simp [qbl]
 | true =>
  cases hm:qgx m with
  | false=>simp [qbl,h2]
  | true=>simp [qbl,h2,q1k hs hm]
theorem ok21:qq5.Ok Try.prog:=Con.of_goal mixed (okC ok66 (okC ok67 (okC q71 okN))) qq5 q7e
abbrev U64:Ty:=.int .u64
noncomputable def qn6:Con:=mkC 60 [.d U64,.d U64] [U64,U64] (fun (x y:Int)=>[x=1∧0≤y∧y≤8]) (fun (x y:Int)=>((0:Int),y,()))
noncomputable def g133 (x0 x1:Int):Option (Int×Int×Unit):=gd ((0:Int)≤32) (gd ((0:Int)≤32) (gd ((0:Int)≤32) (gd ((0:Int)≤32) (gd ((0:Int)≤32) (some ((wr IntKind.u64 (wr IntKind.u64 (wr IntKind.u64 (ishr IntKind.u64 x0 32*ishr IntKind.u64 x1 32)+ishr IntKind.u64 (wr IntKind.u64 (wr IntKind.u64 (ishr IntKind.u64 x0 32*iand IntKind.u64 x1 4294967295)+ishr IntKind.u64 (wr IntKind.u64 (iand IntKind.u64 x0 4294967295*iand IntKind.u64 x1 4294967295)) 32)) 32)+ishr IntKind.u64 (wr IntKind.u64 (iand IntKind.u64 (wr IntKind.u64 (wr IntKind.u64 (ishr IntKind.u64 x0 32*iand IntKind.u64 x1 4294967295)+ishr IntKind.u64 (wr IntKind.u64 (iand IntKind.u64 x0 4294967295*iand IntKind.u64 x1 4294967295)) 32)) 4294967295+wr IntKind.u64 (iand IntKind.u64 x0 4294967295*ishr IntKind.u64 x1 32))) 32),wr IntKind.u64 (x0*x1),()):Int×Int×Unit))))))
noncomputable def qx6:List LSh:=([]:List LSh)
noncomputable def qok:Con:=mkC 46 [.d (.int .u64),.d (.int .u64)] [.int .u64,.int .u64] (fun (x y:Int)=>[x=1∧0≤y∧y≤8]) (fun (x y:Int)=>((0:Int),y,()))
noncomputable def g113 (x0 x1:Int):Option (Int×Int×Unit):=gd (x0=1∧0≤x1∧x1≤8) (some ((0,x1,()):Int×Int×Unit))
noncomputable def qz0:List LSh:=([]:List LSh)
noncomputable def qwf:Con:=mkC 25 [.d LI,.d I64] [LI] (fun (l:List Int) (c:Int)=>[l=[1]∧0≤c∧c≤8]) (fun (l:List Int) (c:Int)=>(List.replicate c.toNat (1:Int),()))
open List Int in
noncomputable def g85 (x0:List Int) (x1:Int):Option (List Int×Unit):=bif ilt x1 (0:Int) then gd False (gd False (gd (wr IntKind.u64 (↑(length x0):Int)=(1:Int)∧(0:Int)≤wr IntKind.u64 x1∧wr IntKind.u64 x1≤(8:Int)) (gd ((!ilt (0:Int) (0:Int))=true→(!ilt (0:Int) (0:Int))=true) (gd (ilt (0:Int) (0:Int)=false→(!ilt (0:Int) (0:Int))=true) (bif bif ilt (0:Int) (0:Int) then true else ilt (9223372036854775807:Int) (wr IntKind.u64 x1) then gd False (gd False (gd ((0:Int)≤wr .i64 (wr IntKind.u64 x1)∧wr .i64 (wr IntKind.u64 x1)≤wr .i64 (wr IntKind.u64 x1)∧wr .i64 (wr IntKind.u64 x1)*(8:Int)≤(1099511627776:Int)) (gd ((0:Nat)+toNat (wr .i64 (wr IntKind.u64 x1))≤length (replicate (toNat (wr .i64 (wr IntKind.u64 x1))) (0:Int))) (qbq (fun (d2:Int×Int×List Int×Unit)=>bif ilt d2.2.1 (↑(toNat d2.1):Int) then gd ((0:Int)≤d2.2.1∧d2.2.1≤(↑(toNat d2.1):Int)) (gd ((0:Int)≤d2.2.1∧d2.2.1≤(↑(toNat d2.1):Int)) (gd ((0:Nat)+toNat d2.2.1≤length d2.2.2.1) (gd ((0:Nat)+toNat d2.2.1+(toNat d2.1-toNat d2.2.1)≤length d2.2.2.1) (some (Lp.go (((↑(toNat d2.1):Int),wr .i64 (d2.2.1+(↑(Nat.min (length (take (toNat d2.2.1) (drop (0:Nat) d2.2.2.1))) (toNat d2.1-toNat d2.2.1)):Int)),setMany d2.2.2.1 ((0:Nat)+toNat d2.2.1) (take (toNat d2.1-toNat d2.2.1) (take (toNat d2.2.1) (drop (0:Nat) d2.2.2.1))),()):Int×Int×List Int×Unit)))))) else gd ((0:Nat)+toNat d2.1≤length d2.2.2.1) (some (Lp.out ((take (toNat d2.1) (drop (0:Nat) d2.2.2.1),()):List Int×Unit)))) (((↑(toNat (wr .i64 (wr IntKind.u64 x1))):Int),(↑(Nat.min (length x0) (toNat (wr .i64 (wr IntKind.u64 x1)))):Int),setMany (replicate (toNat (wr .i64 (wr IntKind.u64 x1))) (0:Int)) (0:Nat) (take (toNat (wr .i64 (wr IntKind.u64 x1))) x0),()):Int×Int×List Int×Unit))))) else gd ((0:Int)≤wr .i64 (wr IntKind.u64 x1)∧wr .i64 (wr IntKind.u64 x1)≤wr .i64 (wr IntKind.u64 x1)∧wr .i64 (wr IntKind.u64 x1)*(8:Int)≤(1099511627776:Int)) (gd ((0:Nat)+toNat (wr .i64 (wr IntKind.u64 x1))≤length (replicate (toNat (wr .i64 (wr IntKind.u64 x1))) (0:Int))) (qbq (fun (d2:Int×Int×List Int×Unit)=>bif ilt d2.2.1 (↑(toNat d2.1):Int) then gd ((0:Int)≤d2.2.1∧d2.2.1≤(↑(toNat d2.1):Int)) (gd ((0:Int)≤d2.2.1∧d2.2.1≤(↑(toNat d2.1):Int)) (gd ((0:Nat)+toNat d2.2.1≤length d2.2.2.1) (gd ((0:Nat)+toNat d2.2.1+(toNat d2.1-toNat d2.2.1)≤length d2.2.2.1) (some (Lp.go (((↑(toNat d2.1):Int),wr .i64 (d2.2.1+(↑(Nat.min (length (take (toNat d2.2.1) (drop (0:Nat) d2.2.2.1))) (toNat d2.1-toNat d2.2.1)):Int)),setMany d2.2.2.1 ((0:Nat)+toNat d2.2.1) (take (toNat d2.1-toNat d2.2.1) (take (toNat d2.2.1) (drop (0:Nat) d2.2.2.1))),()):Int×Int×List Int×Unit)))))) else gd ((0:Nat)+toNat d2.1≤length d2.2.2.1) (some (Lp.out ((take (toNat d2.1) (drop (0:Nat) d2.2.2.1),()):List Int×Unit)))) (((↑(toNat (wr .i64 (wr IntKind.u64 x1))):Int),(↑(Nat.min (length x0) (toNat (wr .i64 (wr IntKind.u64 x1)))):Int),setMany (replicate (toNat (wr .i64 (wr IntKind.u64 x1))) (0:Int)) (0:Nat) (take (toNat (wr .i64 (wr IntKind.u64 x1))) x0),()):Int×Int×List Int×Unit)))))))) else gd (wr IntKind.u64 (↑(length x0):Int)=(1:Int)∧(0:Int)≤wr IntKind.u64 x1∧wr IntKind.u64 x1≤(8:Int)) (gd ((!ilt (0:Int) (0:Int))=true→(!ilt (0:Int) (0:Int))=true) (gd (ilt (0:Int) (0:Int)=false→(!ilt (0:Int) (0:Int))=true) (bif bif ilt (0:Int) (0:Int) then true else ilt (9223372036854775807:Int) (wr IntKind.u64 x1) then gd False (gd False (gd ((0:Int)≤wr .i64 (wr IntKind.u64 x1)∧wr .i64 (wr IntKind.u64 x1)≤wr .i64 (wr IntKind.u64 x1)∧wr .i64 (wr IntKind.u64 x1)*(8:Int)≤(1099511627776:Int)) (gd ((0:Nat)+toNat (wr .i64 (wr IntKind.u64 x1))≤length (replicate (toNat (wr .i64 (wr IntKind.u64 x1))) (0:Int))) (qbq (fun (d2:Int×Int×List Int×Unit)=>bif ilt d2.2.1 (↑(toNat d2.1):Int) then gd ((0:Int)≤d2.2.1∧d2.2.1≤(↑(toNat d2.1):Int)) (gd ((0:Int)≤d2.2.1∧d2.2.1≤(↑(toNat d2.1):Int)) (gd ((0:Nat)+toNat d2.2.1≤length d2.2.2.1) (gd ((0:Nat)+toNat d2.2.1+(toNat d2.1-toNat d2.2.1)≤length d2.2.2.1) (some (Lp.go (((↑(toNat d2.1):Int),wr .i64 (d2.2.1+(↑(Nat.min (length (take (toNat d2.2.1) (drop (0:Nat) d2.2.2.1))) (toNat d2.1-toNat d2.2.1)):Int)),setMany d2.2.2.1 ((0:Nat)+toNat d2.2.1) (take (toNat d2.1-toNat d2.2.1) (take (toNat d2.2.1) (drop (0:Nat) d2.2.2.1))),()):Int×Int×List Int×Unit)))))) else gd ((0:Nat)+toNat d2.1≤length d2.2.2.1) (some (Lp.out ((take (toNat d2.1) (drop (0:Nat) d2.2.2.1),()):List Int×Unit)))) (((↑(toNat (wr .i64 (wr IntKind.u64 x1))):Int),(↑(Nat.min (length x0) (toNat (wr .i64 (wr IntKind.u64 x1)))):Int),setMany (replicate (toNat (wr .i64 (wr IntKind.u64 x1))) (0:Int)) (0:Nat) (take (toNat (wr .i64 (wr IntKind.u64 x1))) x0),()):Int×Int×List Int×Unit))))) else gd ((0:Int)≤wr .i64 (wr IntKind.u64 x1)∧wr .i64 (wr IntKind.u64 x1)≤wr .i64 (wr IntKind.u64 x1)∧wr .i64 (wr IntKind.u64 x1)*(8:Int)≤(1099511627776:Int)) (gd ((0:Nat)+toNat (wr .i64 (wr IntKind.u64 x1))≤length (replicate (toNat (wr .i64 (wr IntKind.u64 x1))) (0:Int))) (qbq (fun (d2:Int×Int×List Int×Unit)=>bif ilt d2.2.1 (↑(toNat d2.1):Int) then gd ((0:Int)≤d2.2.1∧d2.2.1≤(↑(toNat d2.1):Int)) (gd ((0:Int)≤d2.2.1∧d2.2.1≤(↑(toNat d2.1):Int)) (gd ((0:Nat)+toNat d2.2.1≤length d2.2.2.1) (gd ((0:Nat)+toNat d2.2.1+(toNat d2.1-toNat d2.2.1)≤length d2.2.2.1) (some (Lp.go (((↑(toNat d2.1):Int),wr .i64 (d2.2.1+(↑(Nat.min (length (take (toNat d2.2.1) (drop (0:Nat) d2.2.2.1))) (toNat d2.1-toNat d2.2.1)):Int)),setMany d2.2.2.1 ((0:Nat)+toNat d2.2.1) (take (toNat d2.1-toNat d2.2.1) (take (toNat d2.2.1) (drop (0:Nat) d2.2.2.1))),()):Int×Int×List Int×Unit)))))) else gd ((0:Nat)+toNat d2.1≤length d2.2.2.1) (some (Lp.out ((take (toNat d2.1) (drop (0:Nat) d2.2.2.1),()):List Int×Unit)))) (((↑(toNat (wr .i64 (wr IntKind.u64 x1))):Int),(↑(Nat.min (length x0) (toNat (wr .i64 (wr IntKind.u64 x1)))):Int),setMany (replicate (toNat (wr .i64 (wr IntKind.u64 x1))) (0:Int)) (0:Nat) (take (toNat (wr .i64 (wr IntKind.u64 x1))) x0),()):Int×Int×List Int×Unit))))))
noncomputable def q1y:List LSh:=LSh.mk (((7,TV.sl (0) (1) (0)):Nat×TV)::((8,TV.v (Ty.int .i64)):Nat×TV)::([]:List (Nat×TV))) (TB.arr (Ty.int .i64) true::([]:List TB))::([]:List LSh)
def h85 (x0:List Int) (x1:Int):Option (List Int×Unit):=bif ilt x1 (0:Int) then gdD False (gdD False (gdD (wr IntKind.u64 (↑(List.length x0):Int)=(1:Int)∧(0:Int)≤wr IntKind.u64 x1∧wr IntKind.u64 x1≤(8:Int)) (gdD ((!ilt (0:Int) (0:Int))=true→(!ilt (0:Int) (0:Int))=true) (gdD (ilt (0:Int) (0:Int)=false→(!ilt (0:Int) (0:Int))=true) (bif bif ilt (0:Int) (0:Int) then true else ilt (9223372036854775807:Int) (wr IntKind.u64 x1) then gdD False (gdD False (gdD ((0:Int)≤wr .i64 (wr IntKind.u64 x1)∧wr .i64 (wr IntKind.u64 x1)≤wr .i64 (wr IntKind.u64 x1)∧wr .i64 (wr IntKind.u64 x1)*(8:Int)≤(1099511627776:Int)) (gdD ((0:Nat)+Int.toNat (wr .i64 (wr IntKind.u64 x1))≤List.length (List.replicate (Int.toNat (wr .i64 (wr IntKind.u64 x1))) (0:Int))) (qo7 30 (fun (d2:Int×Int×List Int×Unit)=>bif ilt d2.2.1 (↑(Int.toNat d2.1):Int) then gdD ((0:Int)≤d2.2.1∧d2.2.1≤(↑(Int.toNat d2.1):Int)) (gdD ((0:Int)≤d2.2.1∧d2.2.1≤(↑(Int.toNat d2.1):Int)) (gdD ((0:Nat)+Int.toNat d2.2.1≤List.length d2.2.2.1) (gdD ((0:Nat)+Int.toNat d2.2.1+(Int.toNat d2.1-Int.toNat d2.2.1)≤List.length d2.2.2.1) (some (Lp.go (((↑(Int.toNat d2.1):Int),wr .i64 (d2.2.1+(↑(Nat.min (List.length (List.take (Int.toNat d2.2.1) (List.drop (0:Nat) d2.2.2.1))) (Int.toNat d2.1-Int.toNat d2.2.1)):Int)),setMany d2.2.2.1 ((0:Nat)+Int.toNat d2.2.1) (List.take (Int.toNat d2.1-Int.toNat d2.2.1) (List.take (Int.toNat d2.2.1) (List.drop (0:Nat) d2.2.2.1))),()):Int×Int×List Int×Unit)))))) else gdD ((0:Nat)+Int.toNat d2.1≤List.length d2.2.2.1) (some (Lp.out ((List.take (Int.toNat d2.1) (List.drop (0:Nat) d2.2.2.1),()):List Int×Unit)))) (((↑(Int.toNat (wr .i64 (wr IntKind.u64 x1))):Int),(↑(Nat.min (List.length x0) (Int.toNat (wr .i64 (wr IntKind.u64 x1)))):Int),setMany (List.replicate (Int.toNat (wr .i64 (wr IntKind.u64 x1))) (0:Int)) (0:Nat) (List.take (Int.toNat (wr .i64 (wr IntKind.u64 x1))) x0),()):Int×Int×List Int×Unit))))) else gdD ((0:Int)≤wr .i64 (wr IntKind.u64 x1)∧wr .i64 (wr IntKind.u64 x1)≤wr .i64 (wr IntKind.u64 x1)∧wr .i64 (wr IntKind.u64 x1)*(8:Int)≤(1099511627776:Int)) (gdD ((0:Nat)+Int.toNat (wr .i64 (wr IntKind.u64 x1))≤List.length (List.replicate (Int.toNat (wr .i64 (wr IntKind.u64 x1))) (0:Int))) (qo7 30 (fun (d2:Int×Int×List Int×Unit)=>bif ilt d2.2.1 (↑(Int.toNat d2.1):Int) then gdD ((0:Int)≤d2.2.1∧d2.2.1≤(↑(Int.toNat d2.1):Int)) (gdD ((0:Int)≤d2.2.1∧d2.2.1≤(↑(Int.toNat d2.1):Int)) (gdD ((0:Nat)+Int.toNat d2.2.1≤List.length d2.2.2.1) (gdD ((0:Nat)+Int.toNat d2.2.1+(Int.toNat d2.1-Int.toNat d2.2.1)≤List.length d2.2.2.1) (some (Lp.go (((↑(Int.toNat d2.1):Int),wr .i64 (d2.2.1+(↑(Nat.min (List.length (List.take (Int.toNat d2.2.1) (List.drop (0:Nat) d2.2.2.1))) (Int.toNat d2.1-Int.toNat d2.2.1)):Int)),setMany d2.2.2.1 ((0:Nat)+Int.toNat d2.2.1) (List.take (Int.toNat d2.1-Int.toNat d2.2.1) (List.take (Int.toNat d2.2.1) (List.drop (0:Nat) d2.2.2.1))),()):Int×Int×List Int×Unit)))))) else gdD ((0:Nat)+Int.toNat d2.1≤List.length d2.2.2.1) (some (Lp.out ((List.take (Int.toNat d2.1) (List.drop (0:Nat) d2.2.2.1),()):List Int×Unit)))) (((↑(Int.toNat (wr .i64 (wr IntKind.u64 x1))):Int),(↑(Nat.min (List.length x0) (Int.toNat (wr .i64 (wr IntKind.u64 x1)))):Int),setMany (List.replicate (Int.toNat (wr .i64 (wr IntKind.u64 x1))) (0:Int)) (0:Nat) (List.take (Int.toNat (wr .i64 (wr IntKind.u64 x1))) x0),()):Int×Int×List Int×Unit)))))))) else gdD (wr IntKind.u64 (↑(List.length x0):Int)=(1:Int)∧(0:Int)≤wr IntKind.u64 x1∧wr IntKind.u64 x1≤(8:Int)) (gdD ((!ilt (0:Int) (0:Int))=true→(!ilt (0:Int) (0:Int))=true) (gdD (ilt (0:Int) (0:Int)=false→(!ilt (0:Int) (0:Int))=true) (bif bif ilt (0:Int) (0:Int) then true else ilt (9223372036854775807:Int) (wr IntKind.u64 x1) then gdD False (gdD False (gdD ((0:Int)≤wr .i64 (wr IntKind.u64 x1)∧wr .i64 (wr IntKind.u64 x1)≤wr .i64 (wr IntKind.u64 x1)∧wr .i64 (wr IntKind.u64 x1)*(8:Int)≤(1099511627776:Int)) (gdD ((0:Nat)+Int.toNat (wr .i64 (wr IntKind.u64 x1))≤List.length (List.replicate (Int.toNat (wr .i64 (wr IntKind.u64 x1))) (0:Int))) (qo7 30 (fun (d2:Int×Int×List Int×Unit)=>bif ilt d2.2.1 (↑(Int.toNat d2.1):Int) then gdD ((0:Int)≤d2.2.1∧d2.2.1≤(↑(Int.toNat d2.1):Int)) (gdD ((0:Int)≤d2.2.1∧d2.2.1≤(↑(Int.toNat d2.1):Int)) (gdD ((0:Nat)+Int.toNat d2.2.1≤List.length d2.2.2.1) (gdD ((0:Nat)+Int.toNat d2.2.1+(Int.toNat d2.1-Int.toNat d2.2.1)≤List.length d2.2.2.1) (some (Lp.go (((↑(Int.toNat d2.1):Int),wr .i64 (d2.2.1+(↑(Nat.min (List.length (List.take (Int.toNat d2.2.1) (List.drop (0:Nat) d2.2.2.1))) (Int.toNat d2.1-Int.toNat d2.2.1)):Int)),setMany d2.2.2.1 ((0:Nat)+Int.toNat d2.2.1) (List.take (Int.toNat d2.1-Int.toNat d2.2.1) (List.take (Int.toNat d2.2.1) (List.drop (0:Nat) d2.2.2.1))),()):Int×Int×List Int×Unit)))))) else gdD ((0:Nat)+Int.toNat d2.1≤List.length d2.2.2.1) (some (Lp.out ((List.take (Int.toNat d2.1) (List.drop (0:Nat) d2.2.2.1),()):List Int×Unit)))) (((↑(Int.toNat (wr .i64 (wr IntKind.u64 x1))):Int),(↑(Nat.min (List.length x0) (Int.toNat (wr .i64 (wr IntKind.u64 x1)))):Int),setMany (List.replicate (Int.toNat (wr .i64 (wr IntKind.u64 x1))) (0:Int)) (0:Nat) (List.take (Int.toNat (wr .i64 (wr IntKind.u64 x1))) x0),()):Int×Int×List Int×Unit))))) else gdD ((0:Int)≤wr .i64 (wr IntKind.u64 x1)∧wr .i64 (wr IntKind.u64 x1)≤wr .i64 (wr IntKind.u64 x1)∧wr .i64 (wr IntKind.u64 x1)*(8:Int)≤(1099511627776:Int)) (gdD ((0:Nat)+Int.toNat (wr .i64 (wr IntKind.u64 x1))≤List.length (List.replicate (Int.toNat (wr .i64 (wr IntKind.u64 x1))) (0:Int))) (qo7 30 (fun (d2:Int×Int×List Int×Unit)=>bif ilt d2.2.1 (↑(Int.toNat d2.1):Int) then gdD ((0:Int)≤d2.2.1∧d2.2.1≤(↑(Int.toNat d2.1):Int)) (gdD ((0:Int)≤d2.2.1∧d2.2.1≤(↑(Int.toNat d2.1):Int)) (gdD ((0:Nat)+Int.toNat d2.2.1≤List.length d2.2.2.1) (gdD ((0:Nat)+Int.toNat d2.2.1+(Int.toNat d2.1-Int.toNat d2.2.1)≤List.length d2.2.2.1) (some (Lp.go (((↑(Int.toNat d2.1):Int),wr .i64 (d2.2.1+(↑(Nat.min (List.length (List.take (Int.toNat d2.2.1) (List.drop (0:Nat) d2.2.2.1))) (Int.toNat d2.1-Int.toNat d2.2.1)):Int)),setMany d2.2.2.1 ((0:Nat)+Int.toNat d2.2.1) (List.take (Int.toNat d2.1-Int.toNat d2.2.1) (List.take (Int.toNat d2.2.1) (List.drop (0:Nat) d2.2.2.1))),()):Int×Int×List Int×Unit)))))) else gdD ((0:Nat)+Int.toNat d2.1≤List.length d2.2.2.1) (some (Lp.out ((List.take (Int.toNat d2.1) (List.drop (0:Nat) d2.2.2.1),()):List Int×Unit)))) (((↑(Int.toNat (wr .i64 (wr IntKind.u64 x1))):Int),(↑(Nat.min (List.length x0) (Int.toNat (wr .i64 (wr IntKind.u64 x1)))):Int),setMany (List.replicate (Int.toNat (wr .i64 (wr IntKind.u64 x1))) (0:Int)) (0:Nat) (List.take (Int.toNat (wr .i64 (wr IntKind.u64 x1))) x0),()):Int×Int×List Int×Unit))))))
theorem q6b (x0:List Int) (x1:Int):LeO (h85 x0 x1) (g85 x0 x1):=by
 unfold h85 g85
 repeat' first | exact qag | refine q11 ?_ | refine qaf ?_ ?_ | refine qar ?_ | refine qw8 ?_ ?_ | (refine qq7 fun s=>?_;try dsimp only)
theorem q43:qn6.goal Try.prog (spOf []) qx6 [] lm30:=by
 have e:(∀ (x y:Int),(x=1∧0≤y∧y≤8)→g133 x y=some ((0:Int),y,()))=qn6.goal Try.prog (spOf []) qx6 [] lm30:=by kernel_rfl
 rw [← e];rintro x y ⟨rfl,h1,h2⟩;have:y=0∨y=1∨y=2∨y=3∨y=4∨y=5∨y=6∨y=7∨y=8:=by omega
 unfold g133;rw [qal (by decide),qal (by decide),qal (by decide),qal (by decide),qal (by decide)]
 rcases this with rfl | rfl | rfl | rfl | rfl | rfl | rfl | rfl | rfl<;>decide +kernel
theorem q77:qn6.Ok Try.prog:=Con.of_goal mixed okN qn6 q43
theorem q5p:qok.goal Try.prog (spOf [qn6]) qz0 [] lm30:=by
 have e:(∀ (x y:Int),(x=1∧0≤y∧y≤8)→g113 x y=some ((0:Int),y,()))=qok.goal Try.prog (spOf [qn6]) qz0 [] lm30:=by kernel_rfl
 rw [← e];intro x y h;unfold g113;rw [qal h]
theorem q7p:qok.Ok Try.prog:=Con.of_goal mixed (okC q77 okN) qok q5p
theorem q6f:qwf.goal Try.prog (spOf [qok]) q1y [] lm30:=by
 have e:(∀ (l:List Int) (c:Int),(l=[1]∧0≤c∧c≤8)→g85 l c=some (List.replicate c.toNat (1:Int),()))=qwf.goal Try.prog (spOf [qok]) q1y [] lm30:=by kernel_rfl
 rw [← e];rintro l y ⟨rfl,h1,h2⟩;have:y=0∨y=1∨y=2∨y=3∨y=4∨y=5∨y=6∨y=7∨y=8:=by omega
 refine q6b _ _ _ ?_
 rcases this with rfl | rfl | rfl | rfl | rfl | rfl | rfl | rfl | rfl<;>decide +kernel
theorem ok85:qwf.Ok Try.prog:=Con.of_goal mixed (okC q7p okN) qwf q6f
def shF:Nat→Int→Int→List Int→List (List Int)
 | 0,_,_,_=>[]
 | f+1,n,most,b=>if n=0 then [b] else catX (fun x=>shF f (n-x) x (b++[x])) (min n most).toNat 1
def preS (k:Nat) (n most:Int) (b:List Int):Prop:=0≤n∧n<k∧n≤8∧0≤most∧most≤8∧(b.length:Int)+n≤8
noncomputable def qro (k:Nat):SCon:=mkS 20 [.v I64,.v I64,.v LI] [] [.v LLI] [] (fun (n most:Int) (b:List Int)=>[preS k n most b]) (fun (n most:Int) (b:List Int)=>(shF k n most b,()))
open List Int in
noncomputable def g84 (n:Nat) (x0 x1:Int) (x2:List Int):Option (List (List Int)×Unit):=bif ieq x0 0 then some ((x2::([]:List (List Int)),()):List (List Int)×Unit) else gd ((0:Nat)=0) (qbq (fun (d4:Int×List (List Int)×Unit)=>bif ile d4.1 (imin x0 x1) then gd (0≤(↑(length x2):Int)∧(↑(length x2):Int)≤(↑(length x2):Int)∧(↑(length x2):Int)≤(↑(length x2):Int)) (gd (length x2<length (take (length x2) x2)+1) (gd ((length (take (length x2) x2)+1)*(8:Nat)≤1099511627776) (gd (0+(length (take (length x2) x2)+1)≤length (take (length x2) x2++d4.1::([]:List Int))) (gd (preS n (wr .i64 (x0-d4.1)) d4.1 (take (length (take (length x2) x2)+1) (drop 0 (take (length x2) x2++d4.1::([]:List Int))))) (gd (length d4.2.1≤length d4.2.1) (gd ((length d4.2.1+length (shF n (wr .i64 (x0-d4.1)) d4.1 (take (length (take (length x2) x2)+1) (drop 0 (take (length x2) x2++d4.1::([]:List Int))))))*(24:Nat)≤1099511627776) (gd (length d4.2.1+length (shF n (wr .i64 (x0-d4.1)) d4.1 (take (length (take (length x2) x2)+1) (drop 0 (take (length x2) x2++d4.1::([]:List Int)))))=length (take (length d4.2.1) d4.2.1++shF n (wr .i64 (x0-d4.1)) d4.1 (take (length (take (length x2) x2)+1) (drop 0 (take (length x2) x2++d4.1::([]:List Int)))))) (some (Lp.go ((wr .i64 (d4.1+1),take (length d4.2.1) d4.2.1++shF n (wr .i64 (x0-d4.1)) d4.1 (take (length (take (length x2) x2)+1) (drop 0 (take (length x2) x2++d4.1::([]:List Int)))),()):Int×List (List Int)×Unit)))))))))) else gd (0+length d4.2.1≤length d4.2.1) (some (Lp.out ((take (length d4.2.1) (drop 0 d4.2.1),()):List (List Int)×Unit)))) ((1,([]:List (List Int)),()):Int×List (List Int)×Unit))
noncomputable def q1u:List LSh:=LSh.mk (((7,TV.slf (0) (1)):Nat×TV)::((8,TV.v (Ty.int .i64)):Nat×TV)::([]:List (Nat×TV))) (TB.arr (Ty.slice (Ty.int .i64)) true::([]:List TB))::([]:List LSh)
theorem qx8:∀ {k:Nat} {n most:Int} {b:List Int},0≤n→n≤8→(shF k n most b).length≤8 ^ n.toNat
 | 0,n,most,b,_,_=>by simp [shF]
 | k+1,n,most,b,h,h8=>by
  rw [shF];split
  ·rename_i h0;subst h0;simp
  ·obtain ⟨j,hj⟩:∃ j:Nat,n=(j:Int)+1:=⟨(n-1).toNat,by omega⟩
   have e:n.toNat=j+1:=by omega
   rw [e,Nat.pow_succ];refine Nat.le_trans (qp7 (B:=8 ^ j) _ _ fun y h1 h2=>?_) (by rw [Nat.mul_comm];exact Nat.mul_le_mul_left _ (by omega))
   refine Nat.le_trans (qx8 (by omega) (by omega)) (Nat.pow_le_pow_right (by omega) (by omega))
theorem q6r (k:Nat):(qro (k+1)).goal Try.prog (spS [qro k] []) q1u [] lm30:=by
 have e:(∀ (n most:Int) (b:List Int),preS (k+1) n most b→g84 k n most b=some (shF (k+1) n most b,()))=(qro (k+1)).goal Try.prog (spS [qro k] []) q1u [] lm30:=by kernel_rfl
 rw [← e];rintro n most b ⟨h1,h2,h3,h4,h5,h6⟩;unfold g84;rw [shF]
 by_cases h0:n=0
 ·rw [qbx.2 h0,if_pos h0];rfl
 ·rw [qgz.2 h0,if_neg h0,wbd,qal rfl];have hmin:imin n most=min n most:=by unfold imin;split<;>omega
  have hlen:=qx8 (k:=k+1) (n:=n) (most:=most) (b:=b) h1 h3;rw [shF,if_neg h0] at hlen;have hpow:8 ^ n.toNat≤16777216:=Nat.le_trans (Nat.pow_le_pow_right (by omega) (show n.toNat≤8 by omega)) (by decide)
  refine qha (fun s b=>s++b) (fun s b=>s.length+b.length≤16777216) (fun s=>wbu s) (fun s a b=>wat s a b) (fun s a b h=>by simp only [waf] at h ⊢;omega)
   (fun x s=>(x,s,())) (fun s=>(s,())) (fun x=>shF k (n-x) x (b++[x])) 1 (min n most) ?_ ?_ _ 1 ([]:List (List Int)) (Int.le_refl _) (by omega) (by simpa using (by omega))
  ·intro x s hx1 hx2 hs;have hx':wr .i64 (x+1)=x+1:=qc8 (by omega)
   have hx3:wr .i64 (n-x)=n-x:=qc8 (by omega)
   have hp:preS k (n-x) x (b++[x]):=⟨by omega,by omega,by omega,by omega,by omega,by simp;omega⟩
   simp only [hmin,ql6.2 hx2,wbe,wba,hx',hx3,wbq];have ht:(b++[x]).take (b.length+1)=b++[x]:=wal (by simp)
   rw [ht];rw [qal ⟨by omega,by omega,by omega⟩,qal (by omega),qal (by omega),qal (by simp),qal hp,qal (wae _),qal (by omega),qal (by simp)]
  ·intro x s hx;simp only [hmin,qlj.2 hx,wbd,wbq,wba];rw [qal (by omega)]
theorem ok84:∀ k,(qro k).Ok Try.prog
 | 0=>qdc _ (by kernel_rfl) fun n most b p hp h=>by
   cases hp;have h:preS 0 n most b:=allP_one.1 h;have h1:=h.1;have h2:=h.2.1;omega
 | k+1=>SCon.of_goal mixed okN (okS (ok84 k) okS0) (qro (k+1)) (q6r k)
end Go.Schur
