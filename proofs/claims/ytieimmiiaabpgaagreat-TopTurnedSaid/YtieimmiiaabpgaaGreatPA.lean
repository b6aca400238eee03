/- Contracts of the chapter on fillings,at this program. -/
import Derived.Test.YtieimmiiaabpgaaGreatProg
import Derived.Test.YtieimmiiaabpgaaGreatAT
import Derived.Test.YtieimmiiaabpgaaGreatAT
import Derived.Test.YtieimmiiaabpgaaGreatAV
set_option maxRecDepth 100000
set_option linter.unusedVariables false
set_option linter.unusedSimpArgs false
namespace Go.Schur
open Go Go.Ab Go.Proofs
abbrev LLI:Ty:=.slice LI
def rowF (l:List Int) (i:Int):Int:=if i<0 then 0 else l.getD i.toNat 0
def atF (inner:List Int) (rows:List (List Int)) (i j:Int):Int:=if i<0∨j<rowF inner i then 0 else (rows.getD i.toNat []).getD (j-rowF inner i).toNat 0
def full (inner outer:List Int) (rows:List (List Int)):Bool:=rows.length=0 || rowF inner (rows.length-1)+(rows.getLastD []).length=rowF outer (rows.length-1)
structure preM (n:Nat) (inner outer left:List Int) (most:Int) (nul:Bool) (rows:List (List Int)):Prop where
 il:inner.length≤8
 ol:outer.length≤8
 i0:∀ i:Nat,0≤rowF inner i
 o8:∀ i:Nat,rowF outer i≤8
 od:∀ i:Nat,rowF outer (i+1:Nat)≤rowF outer i
 ins:∀ i:Nat,rowF inner i≤rowF outer i
 len:rows.length≤outer.length
 fl:∀ i:Nat,i+1<rows.length→rowF inner i+(rows.getD i []).length=rowF outer i
 la:∀ i:Nat,i+1=rows.length→rowF inner i+(rows.getD i []).length≤rowF outer i
 ent:∀ r∈rows,∀ x∈r,1≤x∧x≤most
 mo:0≤most∧most≤8
 lf:nul=false→left.length=most∧∀ x∈left,0≤x∧x≤8
 mu:9*(outer.length-rows.length)+(8-(rows.getLastD []).length)<n
theorem mixed:Tryz.prog.follows .mixedOrders=true:=by kernel_rfl
theorem qa5 {P:Program} (c:SCon) (hcall:qbr P c.f=true) (h:allD (c.ins.flatMap TV.ts++tsB c.ibl) fun env=>∀ p,c.pre env=some p→¬ allP p):c.Ok P :=
 ⟨hcall,fun Γ w env p r vs em henv hpre hF hp hargs=>absurd hp (qj3 (K:=fun env=>∀ p,c.pre env=some p→¬ allP p) h henv p hpre)⟩
theorem qvn {A:Type} (R:List A) (r d:A):(R++[r]).getLastD d=r:=by simp
theorem qxi {A:Type} (R:List A) (r d:A):(R++[r]).getD R.length d=r:=by simp
theorem quc {A:Type} (R:List A) (r d:A) {i:Nat} (h:i<R.length):(R++[r]).getD i d=R.getD i d:=by
 simp [waa,waf h]
theorem q6f {inner outer:List Int} (R:List (List Int)) (r:List Int):full inner outer (R++[r])=decide (rowF inner R.length+r.length=rowF outer R.length):=by
 have:((R++[r]).length:Int)-1=R.length:=by simp
 unfold full;rw [this,qvn];simp
namespace preM
variable {n:Nat} {inner outer left:List Int} {most:Int} {nul:Bool}
theorem lt8 {R:List (List Int)} {r:List Int} (h:preM n inner outer left most nul (R++[r])) (hf:full inner outer (R++[r])=false):rowF inner R.length+r.length<rowF outer R.length:=by
 rw [q6f] at hf;have h1:=of_decide_eq_false hf;have h2:=h.la R.length (by simp)
 rw [qxi] at h2;omega
theorem box {R:List (List Int)} {r:List Int} {x:Int} {left':List Int} (h:preM (n+1) inner outer left most nul (R++[r])) (hf:full inner outer (R++[r])=false) (hx:1≤x∧x≤most)
  (hl:nul=false→left'.length=most∧∀ x∈left',0≤x∧x≤8):preM n inner outer left' most nul (R++[r++[x]]):=by
 have hlt:=h.lt8 hf;refine { h with lf:=hl,len:=?_,fl:=?_,la:=?_,ent:=?_,mu:=?_ }
 ·have:=h.len;simpa using this
 ·intro i hi;simp only [wae,wa5,wa9] at hi;have:=h.fl i (by simpa using hi)
  rw [quc _ _ _ (by omega)] at this ⊢
  exact this
 ·intro i hi;simp only [wae,wa5,wa9] at hi;have:i=R.length:=by omega
  subst this;rw [qxi];simp only [wae,wa5,wa9];omega
 ·intro q hq
  rcases List.mem_append.1 hq with h1 | h1
  ·exact h.ent q (wbg _ h1)
  ·rw [List.mem_singleton.1 h1];intro y hy
   rcases List.mem_append.1 hy with h2 | h2
   ·exact h.ent r (by simp) y h2
   ·rw [List.mem_singleton.1 h2];exact hx
 ·have h1:=h.mu;have h2:=h.i0 R.length;have h3:=h.o8 R.length;simp only [qvn,wae,wa5,wa9] at h1 ⊢;omega
end preM
open Go Go.Ab Go.Proofs
noncomputable def qst:Con:=mkC 19 [.d LI] [LI] (fun (l:List Int)=>[l.length≤100000]) (fun (l:List Int)=>(l,()))
noncomputable def g39 (x0:List Int):Option (List Int×Unit):=Option.map id (eqO (List.length x0=0) (some ((([]:List Int),()):List Int×Unit)) (gd ((0:Nat)≤0) (gd ((0+List.length x0)*(8:Nat)≤1099511627776) (gd (0+(0+List.length x0)≤List.length x0) (some ((List.take (0+List.length x0) (List.drop 0 x0),()):List Int×Unit))))))
noncomputable def q63:List LSh:=([]:List LSh)
structure okIn (inner outer m:List Int):Prop where
 il:inner.length≤8
 ol:outer.length≤8
 i0:∀ i:Nat,0≤rowF inner i
 o8:∀ i:Nat,rowF outer i≤8
 od:∀ i:Nat,rowF outer (i+1:Nat)≤rowF outer i
 ins:∀ i:Nat,rowF inner i≤rowF outer i
 ml:m.length≤8
 m8:∀ x∈m,0≤x∧x≤8
theorem zd2:qst.goal Tryz.prog (spOf []) q63 [5] lm30:=by
 have e:(∀ (l:List Int),l.length≤100000→g39 l=some (l,()))=qst.goal Tryz.prog (spOf []) q63 [5] lm30:=by kernel_rfl
 rw [← e];intro l hl;unfold g39
 by_cases h:l.length=0
 ·have:l=[]:=List.length_eq_zero_iff.1 h;subst this;simp [q2p,eqO]
 ·simp [q2p,eqO,h];rw [q62 (by omega)]
theorem ok39:qst.Ok Tryz.prog:=Con.of_goal mixed okN qst zd2
def sumN (l:List Int):Nat:=(l.map Int.toNat).sum
theorem okIn.pre {inner outer m:List Int} (h:okIn inner outer m):preM 81 inner outer m m.length false [] where
 il:=h.il
 ol:=h.ol
 i0:=h.i0
 o8:=h.o8
 od:=h.od
 ins:=h.ins
 len:=by simp
 fl:=fun i hi=>by simp at hi
 la:=fun i hi=>by simp at hi
 ent:=fun r hr=>by simp at hr
 mo:=by have:=h.ml;omega
 lf:=fun _=>⟨rfl,h.m8⟩
 mu:=by have:=h.ol;simp;omega
def Ord (inner:List Int) (T:List (List Int)):Prop:=∀ i j:Nat,i<T.length→j<(T.getD i []).length →
 (0<j→(T.getD i []).getD (j-1) 0≤(T.getD i []).getD j 0)∧(0<i→atF inner T ((i:Int)-1) (rowF inner i+j)<(T.getD i []).getD j 0)
structure Tab (inner outer:List Int) (most:Int) (T:List (List Int)):Prop where
 len:T.length=outer.length
 row:∀ i:Nat,i<T.length→rowF inner i+((T.getD i []).length:Int)=rowF outer i
 ent:∀ r∈T,∀ x∈r,1≤x∧x≤most
 ord:Ord inner T
inductive Pre:List (List Int)→List (List Int)→Prop
 | nil (T:List (List Int)):Pre [] T
 | app (R:List (List Int)) (r s:List Int) (U:List (List Int)):Pre (R++[r]) (R++(r++s)::U)
structure Sums (inner outer left:List Int) (most:Int) (rows:List (List Int)) (N:Nat):Prop where
 tot:∀ T,Tab inner outer most T→T.flatten.length=N
 sum:sumN left+rows.flatten.length=N
def upTo (lo hi:Nat):List Nat:=(List.range (hi+1-lo)).map (lo+·)
def Dec (l:List Nat):Prop:=∀ i,l.getD (i+1) 0≤l.getD i 0
structure Small8 (l:List Nat):Prop where
 dec:Dec l
 len:l.length≤8
 le8:∀ i,l.getD i 0≤8
def qyd:Nat→Nat→Nat→List (List Nat)
 | 0,n,most=>if n=0 then [[]] else []
 | f+1,n,most=>if n=0 then [[]] else (upTo 1 (min n most)).flatMap fun x=>(qyd f (n-x) x).map (x::·)
def allP:List (List Nat):=(List.range 9).flatMap fun n=>qyd n n n
def preS (k:Nat) (n most:Int) (b:List Int):Prop:=0≤n∧n<k∧n≤8∧0≤most∧most≤8∧(b.length:Int)+n≤8
end Go.Schur
