/- Contracts of the chapter on fillings,at this program. -/
import Derived.Test.YtieimmiiaabpgaaGreatProg
import Derived.Test.YtieimmiiaabpgaaGreatAT
import Derived.Test.YtieimmiiaabpgaaGreatAT
import Derived.Test.YtieimmiiaabpgaaGreatAV
set_option maxRecDepth 100000
set_option linter.unusedVariables false
set_option linter.unusedSimpArgs false
namespace Go.Schur
open Go Go.Ab Go.Proofs
abbrev LLI:Ty:=.slice LI
def rowF (l:List Int) (i:Int):Int:=if i<0 then 0 else l.getD i.toNat 0
def atF (inner:List Int) (rows:List (List Int)) (i j:Int):Int:=if i<0∨j<rowF inner i then 0 else (rows.getD i.toNat []).getD (j-rowF inner i).toNat 0
noncomputable def qqj:SCon:=mkS 19 [.v LI] [] [.slf 0 1] [.arr I64 true] (fun (l:List Int)=>[l.length≤100000]) (fun (l:List Int)=>(l,()))
noncomputable def g39s (x0:List Int):Option (List Int×Unit):=Option.map id (eqO (List.length x0=0) (gd ((0:Nat)=0) (some ((([]:List Int),()):List Int×Unit))) (gd ((0:Nat)≤0) (gd ((0+List.length x0)*(8:Nat)≤1099511627776) (gd (0+List.length x0=List.length x0) (some ((x0,()):List Int×Unit))))))
noncomputable def q3j:List LSh:=([]:List LSh)
def full (inner outer:List Int) (rows:List (List Int)):Bool:=rows.length=0 || rowF inner (rows.length-1)+(rows.getLastD []).length=rowF outer (rows.length-1)
def catX {A:Type} (g:Int→List A):Nat→Int→List A
 | 0,_=>[]
 | c+1,x=>g x++catX g c (x+1)
structure preM (n:Nat) (inner outer left:List Int) (most:Int) (nul:Bool) (rows:List (List Int)):Prop where
 il:inner.length≤8
 ol:outer.length≤8
 i0:∀ i:Nat,0≤rowF inner i
 o8:∀ i:Nat,rowF outer i≤8
 od:∀ i:Nat,rowF outer (i+1:Nat)≤rowF outer i
 ins:∀ i:Nat,rowF inner i≤rowF outer i
 len:rows.length≤outer.length
 fl:∀ i:Nat,i+1<rows.length→rowF inner i+(rows.getD i []).length=rowF outer i
 la:∀ i:Nat,i+1=rows.length→rowF inner i+(rows.getD i []).length≤rowF outer i
 ent:∀ r∈rows,∀ x∈r,1≤x∧x≤most
 mo:0≤most∧most≤8
 lf:nul=false→left.length=most∧∀ x∈left,0≤x∧x≤8
 mu:9*(outer.length-rows.length)+(8-(rows.getLastD []).length)<n
theorem mixed:Tryz.prog.follows .mixedOrders=true:=by kernel_rfl
theorem qbt {P:Program} (c:SCon) (hcall:qbw P c.f=true) (h:allD (c.ins.flatMap TV.ts++tsB c.ibl) fun env=>∀ p,c.pre env=some p→¬ allP p):c.Ok P :=
 ⟨hcall,fun Γ w env p r vs em henv hpre hF hp hargs=>absurd hp (qjo (K:=fun env=>∀ p,c.pre env=some p→¬ allP p) h henv p hpre)⟩
theorem qot {S X:Type} {step:S→Option (Lp S X)} (st:Nat→S) (n:Nat) (x:X) (hgo:∀ i,i<n→step (st i)=some (.go (st (i+1)))) (hout:step (st n)=some (.out x)):qb0 step (st 0)=some x:=by
  have key:∀ c i,i+c=n→qb0 step (st i)=some x:=by
    intro c
    induction c with
    | zero => intro i hi; have : i = n := by omega
              subst this;exact qdt hout
    | succ c ih=>intro i hi;exact (qei (hgo i (by omega))).trans (ih (i+1) (by omega))
  exact key n 0 (by omega)
theorem q9y:qqj.goal Tryz.prog (spOf []) q3j [5] lm30:=by
 have e:(∀ (l:List Int),l.length≤100000→g39s l=some (l,()))=qqj.goal Tryz.prog (spOf []) q3j [5] lm30:=by kernel_rfl
 rw [← e];intro l hl;unfold g39s
 by_cases h:l.length=0
 ·have:l=[]:=List.length_eq_zero_iff.1 h;subst this;simp [qc7,eqO,gd]
 ·simp [qc7,eqO,h];rw [qa2 (by omega)]
theorem zfb:qqj.Ok Tryz.prog:=SCon.of_goal mixed okN okS0 qqj q9y
theorem qwv {A:Type} (R:List A) (r d:A):(R++[r]).getLastD d=r:=by simp
theorem qxh {A:Type} (R:List A) (r d:A):(R++[r]).getD R.length d=r:=by simp
theorem qul {A:Type} (R:List A) (r d:A) {i:Nat} (h:i<R.length):(R++[r]).getD i d=R.getD i d:=by
 simp [waa,wag h]
theorem q6s {inner outer:List Int} (R:List (List Int)) (r:List Int):full inner outer (R++[r])=decide (rowF inner R.length+r.length=rowF outer R.length):=by
 have:((R++[r]).length:Int)-1=R.length:=by simp
 unfold full;rw [this,qwv];simp
namespace preM
variable {n:Nat} {inner outer left:List Int} {most:Int} {nul:Bool}
theorem lt8 {R:List (List Int)} {r:List Int} (h:preM n inner outer left most nul (R++[r])) (hf:full inner outer (R++[r])=false):rowF inner R.length+r.length<rowF outer R.length:=by
 rw [q6s] at hf;have h1:=of_decide_eq_false hf;have h2:=h.la R.length (by simp)
 rw [qxh] at h2;omega
theorem box {R:List (List Int)} {r:List Int} {x:Int} {left':List Int} (h:preM (n+1) inner outer left most nul (R++[r])) (hf:full inner outer (R++[r])=false) (hx:1≤x∧x≤most)
  (hl:nul=false→left'.length=most∧∀ x∈left',0≤x∧x≤8):preM n inner outer left' most nul (R++[r++[x]]):=by
 have hlt:=h.lt8 hf;refine { h with lf:=hl,len:=?_,fl:=?_,la:=?_,ent:=?_,mu:=?_ }
 ·have:=h.len;simpa using this
 ·intro i hi;simp only [waf,wa6,wbb] at hi;have:=h.fl i (by simpa using hi)
  rw [qul _ _ _ (by omega)] at this ⊢
  exact this
 ·intro i hi;simp only [waf,wa6,wbb] at hi;have:i=R.length:=by omega
  subst this;rw [qxh];simp only [waf,wa6,wbb];omega
 ·intro q hq
  rcases List.mem_append.1 hq with h1 | h1
  ·exact h.ent q (wbn _ h1)
  ·rw [List.mem_singleton.1 h1];intro y hy
   rcases List.mem_append.1 hy with h2 | h2
   ·exact h.ent r (by simp) y h2
   ·rw [List.mem_singleton.1 h2];exact hx
 ·have h1:=h.mu;have h2:=h.i0 R.length;have h3:=h.o8 R.length;simp only [qwv,waf,wa6,wbb] at h1 ⊢;omega
end preM
open Go Go.Ab Go.Proofs
theorem qpn {S X σ A:Type} {step:S→Option (Lp S X)} (upd:σ→List A→σ) (P:σ→List A→Prop) (h0:∀ s,upd s []=s) (ha:∀ s a b,upd (upd s a) b=upd s (a++b)) (hP:∀ s a b,P s (a++b)→P s a∧P (upd s a) b) (mk:Int→σ→S) (fin:σ→X) (g:Int→List A) (lo most:Int)
  (hgo:∀ x s,lo≤x→x≤most→P s (g x)→step (mk x s)=some (.go (mk (x+1) (upd s (g x))))) (hout:∀ x s,most<x→step (mk x s)=some (.out (fin s))) :
  ∀ (c:Nat) (x:Int) (s:σ),lo≤x→c=(most+1-x).toNat→P s (catX g c x)→qb0 step (mk x s)=some (fin (upd s (catX g c x)))
 | 0,x,s,hx,hc,hp=>by rw [catX,h0];exact qdt (hout x s (by omega))
 | c+1,x,s,hx,hc,hp=>by
  rw [catX] at hp ⊢;have h:=hP _ _ _ hp;rw [qei (hgo x s hx (by omega) h.1),qpn upd P h0 ha hP mk fin g lo most hgo hout c (x+1) _ (by omega) (by omega) h.2,ha]
noncomputable def qtp:Con:=mkC 19 [.d LI] [LI] (fun (l:List Int)=>[l.length≤100000]) (fun (l:List Int)=>(l,()))
noncomputable def g39 (x0:List Int):Option (List Int×Unit):=Option.map id (eqO (List.length x0=0) (some ((([]:List Int),()):List Int×Unit)) (gd ((0:Nat)≤0) (gd ((0+List.length x0)*(8:Nat)≤1099511627776) (gd (0+(0+List.length x0)≤List.length x0) (some ((List.take (0+List.length x0) (List.drop 0 x0),()):List Int×Unit))))))
noncomputable def q6w:List LSh:=([]:List LSh)
def boxW (l:List Int):Int:=l.foldl (fun s x=>wr .i64 (s+x)) 0
noncomputable def qta:Con:=mkC 38 [.d LI] [I64] (fun (l:List Int)=>[l.length≤1000]) (fun (l:List Int)=>(boxW l,()))
noncomputable def g86 (x0:List Int):Option (Int×Unit):=qb0 (fun (d1:Int×Int×Unit)=>bif ilt d1.2.1 (↑(List.length x0):Int) then gd (0≤d1.2.1∧d1.2.1<(↑(List.length x0):Int)) (some (Lp.go ((wr .i64 (d1.1+List.getD x0 (Int.toNat d1.2.1) 0),wr .i64 (d1.2.1+1),()):Int×Int×Unit))) else some (Lp.out ((d1.1,()):Int×Unit))) ((0,0,()):Int×Int×Unit)
noncomputable def q7a:List LSh:=LSh.mk (((3,TV.v (Ty.int .i64)):Nat×TV)::((8,TV.v (Ty.int .i64)):Nat×TV)::([]:List (Nat×TV))) ([]:List TB)::([]:List LSh)
def qkq (l:List Int) (i:Nat):Bool:=decide (1≤l.getD i 0) && decide (l.getD i 0≤8) && (decide (i=0) || decide (l.getD i 0≤l.getD (i-1) 0))
def qa7 (l:List Int):Bool:=decide (l.length≤8) && (List.range l.length).all (qkq l) && decide (l.sum≤8)
noncomputable def qxw:Con:=mkC 37 [.d LI] [.bool] (fun (l:List Int)=>[l.length≤1000]) (fun (l:List Int)=>(qa7 l,()))
open List Int in
noncomputable def g66 (x0:List Int):Option (Bool×Unit):=bif ilt 8 (↑(length x0):Int) then some ((false,()):Bool×Unit) else qb0 (fun (d1:Int×Unit)=>bif ilt d1.1 (↑(length x0):Int) then gd (0≤d1.1∧d1.1<(↑(length x0):Int)) (gd ((!ilt (getD x0 (toNat d1.1) 0) 1)=true→(!ilt (getD x0 (toNat d1.1) 0) 1)=true) (gd (ilt (getD x0 (toNat d1.1) 0) 1=false→(!ilt (getD x0 (toNat d1.1) 0) 1)=true) (gd ((!bif ilt (getD x0 (toNat d1.1) 0) 1 then true else ilt 8 (getD x0 (toNat d1.1) 0))=true→(!bif ilt (getD x0 (toNat d1.1) 0) 1 then true else ilt 8 (getD x0 (toNat d1.1) 0))=true) (gd (((!bif ilt (getD x0 (toNat d1.1) 0) 1 then true else ilt 8 (getD x0 (toNat d1.1) 0)) && ((!bif ilt (getD x0 (toNat d1.1) 0) 1 then true else ilt 8 (getD x0 (toNat d1.1) 0)) && ilt 0 d1.1))=true→((!bif ilt (getD x0 (toNat d1.1) 0) 1 then true else ilt 8 (getD x0 (toNat d1.1) 0)) && ((!bif ilt (getD x0 (toNat d1.1) 0) 1 then true else ilt 8 (getD x0 (toNat d1.1) 0)) && ilt 0 d1.1))=true) (gd (((!bif ilt (getD x0 (toNat d1.1) 0) 1 then true else ilt 8 (getD x0 (toNat d1.1) 0)) && ((!bif ilt (getD x0 (toNat d1.1) 0) 1 then true else ilt 8 (getD x0 (toNat d1.1) 0)) && ilt 0 d1.1))=true→((!bif ilt (getD x0 (toNat d1.1) 0) 1 then true else ilt 8 (getD x0 (toNat d1.1) 0)) && ((!bif ilt (getD x0 (toNat d1.1) 0) 1 then true else ilt 8 (getD x0 (toNat d1.1) 0)) && ilt 0 d1.1))=true∧((!bif ilt (getD x0 (toNat d1.1) 0) 1 then true else ilt 8 (getD x0 (toNat d1.1) 0)) && ((!bif ilt (getD x0 (toNat d1.1) 0) 1 then true else ilt 8 (getD x0 (toNat d1.1) 0)) && ilt 0 d1.1))=true∧0≤wr .i64 (d1.1-1)∧wr .i64 (d1.1-1)<(↑(length x0):Int)) (gd (((!bif ilt (getD x0 (toNat d1.1) 0) 1 then true else ilt 8 (getD x0 (toNat d1.1) 0)) && ((!bif ilt (getD x0 (toNat d1.1) 0) 1 then true else ilt 8 (getD x0 (toNat d1.1) 0)) && ilt 0 d1.1))=true→((!bif ilt (getD x0 (toNat d1.1) 0) 1 then true else ilt 8 (getD x0 (toNat d1.1) 0)) && ((!bif ilt (getD x0 (toNat d1.1) 0) 1 then true else ilt 8 (getD x0 (toNat d1.1) 0)) && ilt 0 d1.1))=true) (gd (((!bif ilt (getD x0 (toNat d1.1) 0) 1 then true else ilt 8 (getD x0 (toNat d1.1) 0)) && ((!bif ilt (getD x0 (toNat d1.1) 0) 1 then true else ilt 8 (getD x0 (toNat d1.1) 0)) && ilt 0 d1.1))=true→((!bif ilt (getD x0 (toNat d1.1) 0) 1 then true else ilt 8 (getD x0 (toNat d1.1) 0)) && ((!bif ilt (getD x0 (toNat d1.1) 0) 1 then true else ilt 8 (getD x0 (toNat d1.1) 0)) && ilt 0 d1.1))=true∧((!bif ilt (getD x0 (toNat d1.1) 0) 1 then true else ilt 8 (getD x0 (toNat d1.1) 0)) && ((!bif ilt (getD x0 (toNat d1.1) 0) 1 then true else ilt 8 (getD x0 (toNat d1.1) 0)) && ilt 0 d1.1))=true) (gd ((!bif ilt (getD x0 (toNat d1.1) 0) 1 then true else ilt 8 (getD x0 (toNat d1.1) 0))=true→(!bif ilt (getD x0 (toNat d1.1) 0) 1 then true else ilt 8 (getD x0 (toNat d1.1) 0))=true∧(!bif ilt (getD x0 (toNat d1.1) 0) 1 then true else ilt 8 (getD x0 (toNat d1.1) 0))=true∧(ilt 0 d1.1=true→((!bif ilt (getD x0 (toNat d1.1) 0) 1 then true else ilt 8 (getD x0 (toNat d1.1) 0)) && ((!bif ilt (getD x0 (toNat d1.1) 0) 1 then true else ilt 8 (getD x0 (toNat d1.1) 0)) && ilt 0 d1.1))=true)) (gd ((bif ilt (getD x0 (toNat d1.1) 0) 1 then true else ilt 8 (getD x0 (toNat d1.1) 0))=false→(!bif ilt (getD x0 (toNat d1.1) 0) 1 then true else ilt 8 (getD x0 (toNat d1.1) 0))=true) (bif bif bif ilt (getD x0 (toNat d1.1) 0) 1 then true else ilt 8 (getD x0 (toNat d1.1) 0) then true else bif ilt 0 d1.1 then ilt (getD x0 (toNat (wr .i64 (d1.1-1))) 0) (getD x0 (toNat d1.1) 0) else false then some (Lp.out ((false,()):Bool×Unit)) else some (Lp.go ((wr .i64 (d1.1+1),()):Int×Unit)))))))))))) else gd (length x0≤1000) (some (Lp.out ((ile (boxW x0) 8,()):Bool×Unit)))) ((0,()):Int×Unit)
noncomputable def q6u:List LSh:=LSh.mk (((10,TV.v (Ty.int .i64)):Nat×TV)::([]:List (Nat×TV))) ([]:List TB)::([]:List LSh)
structure okIn (inner outer m:List Int):Prop where
 il:inner.length≤8
 ol:outer.length≤8
 i0:∀ i:Nat,0≤rowF inner i
 o8:∀ i:Nat,rowF outer i≤8
 od:∀ i:Nat,rowF outer (i+1:Nat)≤rowF outer i
 ins:∀ i:Nat,rowF inner i≤rowF outer i
 ml:m.length≤8
 m8:∀ x∈m,0≤x∧x≤8
theorem zdw:qtp.goal Tryz.prog (spOf []) q6w [5] lm30:=by
 have e:(∀ (l:List Int),l.length≤100000→g39 l=some (l,()))=qtp.goal Tryz.prog (spOf []) q6w [5] lm30:=by kernel_rfl
 rw [← e];intro l hl;unfold g39
 by_cases h:l.length=0
 ·have:l=[]:=List.length_eq_zero_iff.1 h;subst this;simp [qc7,eqO]
 ·simp [qc7,eqO,h];rw [qa2 (by omega)]
theorem ok39:qtp.Ok Tryz.prog:=Con.of_goal mixed okN qtp zdw
theorem zen:qta.goal Tryz.prog (spOf []) q7a [] lm30:=by
 have e:(∀ (l:List Int),l.length≤1000→g86 l=some (boxW l,()))=qta.goal Tryz.prog (spOf []) q7a [] lm30:=by kernel_rfl
 rw [← e];intro l hl;unfold g86;refine qot (fun i=>(boxW (l.take i),(i:Int),())) l.length _ (fun i hi=>?_) ?_
 ·have h4:wr .i64 ((i:Int)+1)=((i+1:Nat):Int):=(qjz (by omega)).trans (by omega)
  simp only [qc4.2 (show (i:Int)<l.length by omega),wbe,wad,h4]
  have h5:boxW (l.take (i+1))=wr .i64 (boxW (l.take i)+l.getD i 0):=by
   unfold boxW;rw [List.take_succ_eq_append_getElem hi,List.foldl_append,waa,wab hi];rfl
  rw [qa2 ⟨by omega,by omega⟩,h5]
 ·simp [ilt]
theorem ok86:qta.Ok Tryz.prog:=Con.of_goal mixed okN qta zen
theorem qx0 {S X : Type} {step : S → Option (Lp S X)} (st : Nat → S) (ok : Nat → Bool) (n:Nat) (xf xt : X) (hgo : ∀ i, i < n → ok i = true → step (st i) = some (.go (st (i + 1)))) (hbad : ∀ i, i < n → ok i = false → step (st i) = some (.out xf)) (hout : step (st n) = some (.out xt)) :
    qb0 step (st 0)=some (if (List.range n).all ok=true then xt else xf):=by
  have key:∀ c i,i+c=n→qb0 step (st i)=some (if (List.range' i c).all ok=true then xt else xf):=by
    intro c
    induction c with
    | zero => intro i hi; have : i = n := by omega
              subst this;simpa using qdt hout
    | succ c ih =>
      intro i hi
      cases h:ok i with
      | true=>rw [qei (hgo i (by omega) h),ih (i+1) (by omega),List.range'_succ,List.all_cons,h,Bool.true_and]
      | false=>rw [qdt (hbad i (by omega) h),List.range'_succ,List.all_cons,h,wbl];rfl
  rw [List.range_eq_range'];exact key n 0 (by omega)
theorem qu0 {S X:Type} {step:S→Option (Lp S X)} (st:Nat→S) (ok:Nat→Bool) (n:Nat) (xf xt y:X) (hst:∀ i,i<n→step (st i)=some (if ok i=true then .go (st (i+1)) else .out xf)) (hout:step (st n)=some (.out xt)) (hy:(if (List.range n).all ok=true then xt else xf)=y) :
  qb0 step (st 0)=some y:=by
 rw [← hy];exact qx0 st ok n xf xt (fun i hi h=>(hst i hi).trans (by rw [if_pos h])) (fun i hi h=>(hst i hi).trans (by rw [h];rfl)) hout
theorem qv9 {l:List Int} (h:∀ x∈l,0≤x∧x≤8) (hl:l.length≤100000):boxW l=l.sum:=by
 have key:∀ (l:List Int) (s:Int),(∀ x∈l,0≤x∧x≤8)→0≤s→s+8*l.length≤9000000→l.foldl (fun s x=>wr .i64 (s+x)) s=s+l.sum:=by
  intro l
  induction l with
  | nil=>intro s _ _ _;simp
  | cons a l ih =>
   intro s h h0 hs;have ha:=h a (by simp)
   simp only [wa6] at hs;rw [wbv,qjz (by omega),ih (s+a) (fun x hx=>h x (by simp [hx])) (by omega) (by omega),List.sum_cons]
   omega
 have:=key l 0 h (by omega) (by omega)
 unfold boxW;omega
theorem qfc {l:List Int} {i:Nat}:qkq l i=true↔(1≤l.getD i 0∧l.getD i 0≤8)∧(i=0∨l.getD i 0≤l.getD (i-1) 0):=by
 simp [qkq,waa]
theorem zem:qxw.goal Tryz.prog (spOf [qta]) q6u [] lm30:=by
 have e:(∀ (l:List Int),l.length≤1000→g66 l=some (qa7 l,()))=qxw.goal Tryz.prog (spOf [qta]) q6u [] lm30:=by kernel_rfl
 rw [← e];intro l hl;unfold g66
 by_cases h8:l.length≤8
 ·rw [q65 (qca.2 (by omega))]
  refine qu0 (fun i=>((i:Int),())) (qkq l) l.length (false,()) (decide (boxW l≤8),()) _ ?_ ?_ ?_
  rotate_left
  ·simp [ilt,gd,hl,ile]
  ·by_cases hr:(List.range l.length).all (qkq l)=true
   ·have hs:boxW l=l.sum:=qv9 (fun x hx=>by
     obtain ⟨i,hi,rfl⟩:=List.getElem_of_mem hx;have:=(qfc.1 (List.all_eq_true.1 hr i (List.mem_range.2 hi))).1;rw [waa,wab hi] at this;simp at this;omega) (by omega)
    simp only [qa7,hr,h8,hs];simp
   ·simp [qa7,hr]
  intro i hi;have h4:wr .i64 ((i:Int)+1)=((i+1:Nat):Int):=(qjz (by omega)).trans (by omega)
  simp only [qc4.2 (show (i:Int)<l.length by omega),wbe,wad,h4]
  rw [qa2 ⟨by omega,by omega⟩]
  simp only [imp_self,qc7]
  by_cases h1:l.getD i 0<1
  ·have:qkq l i=false:=by simp only [qkq,decide_eq_false (show ¬ 1≤l.getD i 0 by omega),wbl]
   rw [this];generalize l.getD i 0=v at h1;simp [qc4.2 h1,qc7]
  by_cases h2:8<l.getD i 0
  ·have:qkq l i=false:=by simp only [qkq,decide_eq_false (show ¬ l.getD i 0≤8 by omega),wbl,wbk]
   rw [this];generalize l.getD i 0=v at h1 h2;simp [qca.2 (show (1:Int)≤v by omega),qc4.2 h2,qc7]
  cases i with
  | zero =>
   have:qkq l 0=true:=qfc.2 ⟨by omega,Or.inl rfl⟩
   rw [this];have h3:ilt (0:Int) ((0:Nat):Int)=false:=by decide
   generalize l.getD 0 0=v at h1 h2;simp only [qca.2 (show (1:Int)≤v by omega),qca.2 (show v≤8 by omega),h3]
   simp [qc7]
  | succ i =>
   have h3:ilt (0:Int) ((i+1:Nat):Int)=true:=qc4.2 (by omega)
   have h5:wr .i64 (((i+1:Nat):Int)-1)=(i:Int):=(qjz (by omega)).trans (by omega)
   simp only [qca.2 (show (1:Int)≤l.getD (i+1) 0 by omega),qca.2 (show l.getD (i+1) 0≤8 by omega),h3,h5,wad,qc7,wbe,wbd,Bool.not_false,wbj,imp_self,true_and,true_implies]
   rw [qa2 ⟨by omega,by omega⟩]
   by_cases h6:l.getD i 0<l.getD (i+1) 0
   ·have:qkq l (i+1)=false:=Bool.eq_false_iff.2 (fun h=>by have:=(qfc.1 h).2;simp only [Nat.add_sub_cancel] at this;omega)
    rw [q63 (qc4.2 h6),this];rfl
   ·have:qkq l (i+1)=true:=qfc.2 ⟨by omega,Or.inr (by simp only [Nat.add_sub_cancel];omega)⟩
    rw [q65 (qca.2 (by omega)),this];rfl
 ·rw [q63 (qc4.2 (by omega))]
  simp [qa7,h8]
theorem ok66:qxw.Ok Tryz.prog:=Con.of_goal mixed (okC ok86 okN) qxw zem
theorem qwf {A:Type} {g:Int→List A} {B:Nat}:∀ (c:Nat) (x:Int),(∀ y,x≤y→y<x+c→(g y).length≤B)→(catX g c x).length≤c*B
 | 0,x,h=>by simp [catX]
 | c+1,x,h=>by
  have h1:=h x (by omega) (by omega)
  have h2:=qwf c (x+1) (fun y h1 h2=>h y (by omega) (by omega))
  rw [catX,waf,Nat.succ_mul];omega
def sumN (l:List Int):Nat:=(l.map Int.toNat).sum
theorem okIn.pre {inner outer m:List Int} (h:okIn inner outer m):preM 81 inner outer m m.length false [] where
 il:=h.il
 ol:=h.ol
 i0:=h.i0
 o8:=h.o8
 od:=h.od
 ins:=h.ins
 len:=by simp
 fl:=fun i hi=>by simp at hi
 la:=fun i hi=>by simp at hi
 ent:=fun r hr=>by simp at hr
 mo:=by have:=h.ml;omega
 lf:=fun _=>⟨rfl,h.m8⟩
 mu:=by have:=h.ol;simp;omega
def Ord (inner:List Int) (T:List (List Int)):Prop:=∀ i j:Nat,i<T.length→j<(T.getD i []).length →
 (0<j→(T.getD i []).getD (j-1) 0≤(T.getD i []).getD j 0)∧(0<i→atF inner T ((i:Int)-1) (rowF inner i+j)<(T.getD i []).getD j 0)
structure Tab (inner outer:List Int) (most:Int) (T:List (List Int)):Prop where
 len:T.length=outer.length
 row:∀ i:Nat,i<T.length→rowF inner i+((T.getD i []).length:Int)=rowF outer i
 ent:∀ r∈T,∀ x∈r,1≤x∧x≤most
 ord:Ord inner T
inductive Pre:List (List Int)→List (List Int)→Prop
 | nil (T:List (List Int)):Pre [] T
 | app (R:List (List Int)) (r s:List Int) (U:List (List Int)):Pre (R++[r]) (R++(r++s)::U)
structure Sums (inner outer left:List Int) (most:Int) (rows:List (List Int)) (N:Nat):Prop where
 tot:∀ T,Tab inner outer most T→T.flatten.length=N
 sum:sumN left+rows.flatten.length=N
def upTo (lo hi:Nat):List Nat:=(List.range (hi+1-lo)).map (lo+·)
def Dec (l:List Nat):Prop:=∀ i,l.getD (i+1) 0≤l.getD i 0
structure Small8 (l:List Nat):Prop where
 dec:Dec l
 len:l.length≤8
 le8:∀ i,l.getD i 0≤8
def qq3:Nat→Nat→Nat→List (List Nat)
 | 0,n,most=>if n=0 then [[]] else []
 | f+1,n,most=>if n=0 then [[]] else (upTo 1 (min n most)).flatMap fun x=>(qq3 f (n-x) x).map (x::·)
def allP:List (List Nat):=(List.range 9).flatMap fun n=>qq3 n n n
def shF:Nat→Int→Int→List Int→List (List Int)
 | 0,_,_,_=>[]
 | f+1,n,most,b=>if n=0 then [b] else catX (fun x=>shF f (n-x) x (b++[x])) (min n most).toNat 1
def preS (k:Nat) (n most:Int) (b:List Int):Prop:=0≤n∧n<k∧n≤8∧0≤most∧most≤8∧(b.length:Int)+n≤8
noncomputable def qsp (k:Nat):SCon:=mkS 33 [.v I64,.v I64,.v LI] [] [.v LLI] [] (fun (n most:Int) (b:List Int)=>[preS k n most b]) (fun (n most:Int) (b:List Int)=>(shF k n most b,()))
open List Int in
noncomputable def g84 (n:Nat) (x0 x1:Int) (x2:List Int):Option (List (List Int)×Unit):=bif ieq x0 0 then some ((x2::([]:List (List Int)),()):List (List Int)×Unit) else gd ((0:Nat)=0) (qb0 (fun (d4:Int×List (List Int)×Unit)=>bif ile d4.1 (imin x0 x1) then gd (0≤(↑(length x2):Int)∧(↑(length x2):Int)≤(↑(length x2):Int)∧(↑(length x2):Int)≤(↑(length x2):Int)) (gd (length x2<length (take (length x2) x2)+1) (gd ((length (take (length x2) x2)+1)*(8:Nat)≤1099511627776) (gd (0+(length (take (length x2) x2)+1)≤length (take (length x2) x2++d4.1::([]:List Int))) (gd (preS n (wr .i64 (x0-d4.1)) d4.1 (take (length (take (length x2) x2)+1) (drop 0 (take (length x2) x2++d4.1::([]:List Int))))) (gd (length d4.2.1≤length d4.2.1) (gd ((length d4.2.1+length (shF n (wr .i64 (x0-d4.1)) d4.1 (take (length (take (length x2) x2)+1) (drop 0 (take (length x2) x2++d4.1::([]:List Int))))))*(24:Nat)≤1099511627776) (gd (length d4.2.1+length (shF n (wr .i64 (x0-d4.1)) d4.1 (take (length (take (length x2) x2)+1) (drop 0 (take (length x2) x2++d4.1::([]:List Int)))))=length (take (length d4.2.1) d4.2.1++shF n (wr .i64 (x0-d4.1)) d4.1 (take (length (take (length x2) x2)+1) (drop 0 (take (length x2) x2++d4.1::([]:List Int)))))) (some (Lp.go ((wr .i64 (d4.1+1),take (length d4.2.1) d4.2.1++shF n (wr .i64 (x0-d4.1)) d4.1 (take (length (take (length x2) x2)+1) (drop 0 (take (length x2) x2++d4.1::([]:List Int)))),()):Int×List (List Int)×Unit)))))))))) else gd (0+length d4.2.1≤length d4.2.1) (some (Lp.out ((take (length d4.2.1) (drop 0 d4.2.1),()):List (List Int)×Unit)))) ((1,([]:List (List Int)),()):Int×List (List Int)×Unit))
noncomputable def q7e:List LSh:=LSh.mk (((7,TV.slf (0) (1)):Nat×TV)::((8,TV.v (Ty.int .i64)):Nat×TV)::([]:List (Nat×TV))) (TB.arr (Ty.slice (Ty.int .i64)) true::([]:List TB))::([]:List LSh)
theorem q0l:∀ {k:Nat} {n most:Int} {b:List Int},0≤n→n≤8→(shF k n most b).length≤8 ^ n.toNat
 | 0,n,most,b,_,_=>by simp [shF]
 | k+1,n,most,b,h,h8=>by
  rw [shF];split
  ·rename_i h0;subst h0;simp
  ·obtain ⟨j,hj⟩:∃ j:Nat,n=(j:Int)+1:=⟨(n-1).toNat,by omega⟩
   have e:n.toNat=j+1:=by omega
   rw [e,Nat.pow_succ];refine Nat.le_trans (qwf (B:=8 ^ j) _ _ fun y h1 h2=>?_) (by rw [Nat.mul_comm];exact Nat.mul_le_mul_left _ (by omega))
   refine Nat.le_trans (q0l (by omega) (by omega)) (Nat.pow_le_pow_right (by omega) (by omega))
theorem zcy (k:Nat):(qsp (k+1)).goal Tryz.prog (spS [qsp k] []) q7e [] lm30:=by
 have e:(∀ (n most:Int) (b:List Int),preS (k+1) n most b→g84 k n most b=some (shF (k+1) n most b,()))=(qsp (k+1)).goal Tryz.prog (spS [qsp k] []) q7e [] lm30:=by kernel_rfl
 rw [← e];rintro n most b ⟨h1,h2,h3,h4,h5,h6⟩;unfold g84;rw [shF]
 by_cases h0:n=0
 ·rw [qdp.2 h0,if_pos h0];rfl
 ·rw [qjk.2 h0,if_neg h0,wbd,qa2 rfl];have hmin:imin n most=min n most:=by unfold imin;split<;>omega
  have hlen:=q0l (k:=k+1) (n:=n) (most:=most) (b:=b) h1 h3;rw [shF,if_neg h0] at hlen;have hpow:8 ^ n.toNat≤16777216:=Nat.le_trans (Nat.pow_le_pow_right (by omega) (show n.toNat≤8 by omega)) (by decide)
  refine qpn (fun s b=>s++b) (fun s b=>s.length+b.length≤16777216) (fun s=>wbw s) (fun s a b=>wat s a b) (fun s a b h=>by simp only [waf] at h ⊢;omega)
   (fun x s=>(x,s,())) (fun s=>(s,())) (fun x=>shF k (n-x) x (b++[x])) 1 (min n most) ?_ ?_ _ 1 ([]:List (List Int)) (Int.le_refl _) (by omega) (by simpa using (by omega))
  ·intro x s hx1 hx2 hs;have hx':wr .i64 (x+1)=x+1:=qjz (by omega)
   have hx3:wr .i64 (n-x)=n-x:=qjz (by omega)
   have hp:preS k (n-x) x (b++[x]):=⟨by omega,by omega,by omega,by omega,by omega,by simp;omega⟩
   simp only [hmin,qr8.2 hx2,wbe,wba,hx',hx3,wbs];have ht:(b++[x]).take (b.length+1)=b++[x]:=wal (by simp)
   rw [ht];rw [qa2 ⟨by omega,by omega,by omega⟩,qa2 (by omega),qa2 (by omega),qa2 (by simp),qa2 hp,qa2 (wae _),qa2 (by omega),qa2 (by simp)]
  ·intro x s hx;simp only [hmin,qne.2 hx,wbd,wbs,wba];rw [qa2 (by omega)]
theorem ok84:∀ k,(qsp k).Ok Tryz.prog
 | 0=>qbt _ (by kernel_rfl) fun n most b p hp h=>by
   cases hp;have h:preS 0 n most b:=allP_one.1 h;have h1:=h.1;have h2:=h.2.1;omega
 | k+1=>SCon.of_goal mixed okN (okS (ok84 k) okS0) (qsp (k+1)) (zcy k)
end Go.Schur
