/- Fillings: contracts of what calls maker.make,and of the reference. -/
import Derived.Test.YtobghbapmlnmoaaXA
set_option maxRecDepth 100000
set_option linter.unusedVariables false
set_option linter.unusedSimpArgs false
namespace Go.Schur
noncomputable section
open Go Go.Ab Go.Proofs
def qu5:Con:=mkC 39 [.d LI] [LI] (fun (l:List Int)=>[l.length≤100000]) (fun (l:List Int)=>(l,()))
def g39 (x0:List Int):Option (List Int×Unit):=Option.map id (eqO (List.length x0=0) (some ((([]:List Int),()):List Int×Unit)) (gd ((0:Nat)≤0) (gd ((0+List.length x0)*(8:Nat)≤1099511627776) (gd (0+(0+List.length x0)≤List.length x0) (some ((List.take (0+List.length x0) (List.drop 0 x0),()):List Int×Unit))))))
def q7f:List LSh:=([]:List LSh)
def q0v:Con:=mkC 20 [.d LI] [LI] (fun (l:List Int)=>[]) (fun (l:List Int)=>(l.take 12,()))
def g20 (x0:List Int):Option (List Int×Unit):=gd (0≤imin (↑(List.length x0):Int) 12∧imin (↑(List.length x0):Int) 12≤(↑(List.length x0):Int)) (gd (List.length (List.take (Int.toNat (imin (↑(List.length x0):Int) 12)) x0)≤100000) (some ((List.take (Int.toNat (imin (↑(List.length x0):Int) 12)) x0,()):List Int×Unit)))
def q7x:List LSh:=([]:List LSh)
def boxW (l:List Int):Int:=l.foldl (fun s x=>wr .i64 (s+x)) 0
def qmk:Con:=mkC 86 [.d LI] [I64] (fun (l:List Int)=>[l.length≤1000]) (fun (l:List Int)=>(boxW l,()))
def g86 (x0:List Int):Option (Int×Unit):=qat (fun (d1:Int×Int×Unit)=>bif ilt d1.2.1 (↑(List.length x0):Int) then gd (0≤d1.2.1∧d1.2.1<(↑(List.length x0):Int)) (some (Lp.go ((wr .i64 (d1.1+List.getD x0 (Int.toNat d1.2.1) 0),wr .i64 (d1.2.1+1),()):Int×Int×Unit))) else some (Lp.out ((d1.1,()):Int×Unit))) ((0,0,()):Int×Int×Unit)
def q7z:List LSh:=LSh.mk (((3,TV.v (Ty.int .i64)):Nat×TV)::((8,TV.v (Ty.int .i64)):Nat×TV)::([]:List (Nat×TV))) ([]:List TB)::([]:List LSh)
def qfy (l:List Int) (i:Nat):Bool:=decide (1≤l.getD i 0) && decide (l.getD i 0≤8) && (decide (i=0) || decide (l.getD i 0≤l.getD (i-1) 0))
def qad (l:List Int):Bool:=decide (l.length≤8) && (List.range l.length).all (qfy l) && decide (l.sum≤8)
def qmp:Con:=mkC 66 [.d LI] [.bool] (fun (l:List Int)=>[l.length≤1000]) (fun (l:List Int)=>(qad l,()))
open List Int in
def g66 (x0:List Int):Option (Bool×Unit):=bif ilt 8 (↑(length x0):Int) then some ((false,()):Bool×Unit) else qat (fun (d1:Int×Unit)=>bif ilt d1.1 (↑(length x0):Int) then gd (0≤d1.1∧d1.1<(↑(length x0):Int)) (gd ((!ilt (getD x0 (toNat d1.1) 0) 1)=true→(!ilt (getD x0 (toNat d1.1) 0) 1)=true) (gd (ilt (getD x0 (toNat d1.1) 0) 1=false→(!ilt (getD x0 (toNat d1.1) 0) 1)=true) (gd ((!bif ilt (getD x0 (toNat d1.1) 0) 1 then true else ilt 8 (getD x0 (toNat d1.1) 0))=true→(!bif ilt (getD x0 (toNat d1.1) 0) 1 then true else ilt 8 (getD x0 (toNat d1.1) 0))=true) (gd (((!bif ilt (getD x0 (toNat d1.1) 0) 1 then true else ilt 8 (getD x0 (toNat d1.1) 0)) && ((!bif ilt (getD x0 (toNat d1.1) 0) 1 then true else ilt 8 (getD x0 (toNat d1.1) 0)) && ilt 0 d1.1))=true→((!bif ilt (getD x0 (toNat d1.1) 0) 1 then true else ilt 8 (getD x0 (toNat d1.1) 0)) && ((!bif ilt (getD x0 (toNat d1.1) 0) 1 then true else ilt 8 (getD x0 (toNat d1.1) 0)) && ilt 0 d1.1))=true) (gd (((!bif ilt (getD x0 (toNat d1.1) 0) 1 then true else ilt 8 (getD x0 (toNat d1.1) 0)) && ((!bif ilt (getD x0 (toNat d1.1) 0) 1 then true else ilt 8 (getD x0 (toNat d1.1) 0)) && ilt 0 d1.1))=true→((!bif ilt (getD x0 (toNat d1.1) 0) 1 then true else ilt 8 (getD x0 (toNat d1.1) 0)) && ((!bif ilt (getD x0 (toNat d1.1) 0) 1 then true else ilt 8 (getD x0 (toNat d1.1) 0)) && ilt 0 d1.1))=true∧((!bif ilt (getD x0 (toNat d1.1) 0) 1 then true else ilt 8 (getD x0 (toNat d1.1) 0)) && ((!bif ilt (getD x0 (toNat d1.1) 0) 1 then true else ilt 8 (getD x0 (toNat d1.1) 0)) && ilt 0 d1.1))=true∧0≤wr .i64 (d1.1-1)∧wr .i64 (d1.1-1)<(↑(length x0):Int)) (gd (((!bif ilt (getD x0 (toNat d1.1) 0) 1 then true else ilt 8 (getD x0 (toNat d1.1) 0)) && ((!bif ilt (getD x0 (toNat d1.1) 0) 1 then true else ilt 8 (getD x0 (toNat d1.1) 0)) && ilt 0 d1.1))=true→((!bif ilt (getD x0 (toNat d1.1) 0) 1 then true else ilt 8 (getD x0 (toNat d1.1) 0)) && ((!bif ilt (getD x0 (toNat d1.1) 0) 1 then true else ilt 8 (getD x0 (toNat d1.1) 0)) && ilt 0 d1.1))=true) (gd (((!bif ilt (getD x0 (toNat d1.1) 0) 1 then true else ilt 8 (getD x0 (toNat d1.1) 0)) && ((!bif ilt (getD x0 (toNat d1.1) 0) 1 then true else ilt 8 (getD x0 (toNat d1.1) 0)) && ilt 0 d1.1))=true→((!bif ilt (getD x0 (toNat d1.1) 0) 1 then true else ilt 8 (getD x0 (toNat d1.1) 0)) && ((!bif ilt (getD x0 (toNat d1.1) 0) 1 then true else ilt 8 (getD x0 (toNat d1.1) 0)) && ilt 0 d1.1))=true∧((!bif ilt (getD x0 (toNat d1.1) 0) 1 then true else ilt 8 (getD x0 (toNat d1.1) 0)) && ((!bif ilt (getD x0 (toNat d1.1) 0) 1 then true else ilt 8 (getD x0 (toNat d1.1) 0)) && ilt 0 d1.1))=true) (gd ((!bif ilt (getD x0 (toNat d1.1) 0) 1 then true else ilt 8 (getD x0 (toNat d1.1) 0))=true→(!bif ilt (getD x0 (toNat d1.1) 0) 1 then true else ilt 8 (getD x0 (toNat d1.1) 0))=true∧(!bif ilt (getD x0 (toNat d1.1) 0) 1 then true else ilt 8 (getD x0 (toNat d1.1) 0))=true∧(ilt 0 d1.1=true→((!bif ilt (getD x0 (toNat d1.1) 0) 1 then true else ilt 8 (getD x0 (toNat d1.1) 0)) && ((!bif ilt (getD x0 (toNat d1.1) 0) 1 then true else ilt 8 (getD x0 (toNat d1.1) 0)) && ilt 0 d1.1))=true)) (gd ((bif ilt (getD x0 (toNat d1.1) 0) 1 then true else ilt 8 (getD x0 (toNat d1.1) 0))=false→(!bif ilt (getD x0 (toNat d1.1) 0) 1 then true else ilt 8 (getD x0 (toNat d1.1) 0))=true) (bif bif bif ilt (getD x0 (toNat d1.1) 0) 1 then true else ilt 8 (getD x0 (toNat d1.1) 0) then true else bif ilt 0 d1.1 then ilt (getD x0 (toNat (wr .i64 (d1.1-1))) 0) (getD x0 (toNat d1.1) 0) else false then some (Lp.out ((false,()):Bool×Unit)) else some (Lp.go ((wr .i64 (d1.1+1),()):Int×Unit)))))))))))) else gd (length x0≤1000) (some (Lp.out ((ile (boxW x0) 8,()):Bool×Unit)))) ((0,()):Int×Unit)
def q7t:List LSh:=LSh.mk (((10,TV.v (Ty.int .i64)):Nat×TV)::([]:List (Nat×TV))) ([]:List TB)::([]:List LSh)
def badX (x:Int):Bool:=decide (x<0) || decide (8<x)
def qqj:Con:=mkC 108 [.d I64] [.bool] (fun (x:Int)=>[]) (fun (x:Int)=>(badX x,()))
def g108 (x0:Int):Option (Bool×Unit):=gd ((!ilt x0 0)=true→(!ilt x0 0)=true) (gd (ilt x0 0=false→(!ilt x0 0)=true) (some ((bif ilt x0 0 then true else ilt 8 x0,()):Bool×Unit)))
def q22:List LSh:=([]:List LSh)
def qot:List Int→Int→Int
 | [],_=>-1
 | x::l,i=>if badX x then i else qot l (i+1)
def qqh:Con:=mkC 131 [.d LI,.fn 108 []] [I64] (fun (l:List Int)=>[l.length≤1000]) (fun (l:List Int)=>(qot l 0,()))
def g131 (x0:List Int):Option (Int×Unit):=qat (fun (d1:Int×Unit)=>bif ilt d1.1 (↑(List.length x0):Int) then gd (0≤d1.1∧d1.1<(↑(List.length x0):Int)) (bif badX (List.getD x0 (Int.toNat d1.1) 0) then some (Lp.out ((d1.1,()):Int×Unit)) else some (Lp.go ((wr .i64 (d1.1+1),()):Int×Unit))) else some (Lp.out (((-1:Int),()):Int×Unit))) ((0,()):Int×Unit)
def q3o:List LSh:=LSh.mk (((1,TV.fn (108) TV.nil):Nat×TV)::((8,TV.v (Ty.int .i64)):Nat×TV)::([]:List (Nat×TV))) ([]:List TB)::([]:List LSh)
def qp6:Con:=mkC 107 [.d LI,.fn 108 []] [.bool] (fun (l:List Int)=>[l.length≤1000]) (fun (l:List Int)=>(l.any badX,()))
def g107 (x0:List Int):Option (Bool×Unit):=gd (List.length x0≤1000) (some ((ile 0 (qot x0 0),()):Bool×Unit))
def q30:List LSh:=([]:List LSh)
def qgu (m:List Int):Bool:=decide (m.length≤8) && m.all (fun x=>decide (0≤x) && decide (x≤8)) && decide (m.sum≤8)
def qzm:Con:=mkC 67 [.d LI] [.bool] (fun (m:List Int)=>[m.length≤1000]) (fun (m:List Int)=>(qgu m,()))
def g67 (x0:List Int):Option (Bool×Unit):=gd (ile (↑(List.length x0):Int) 8=true→ile (↑(List.length x0):Int) 8=true∧List.length x0≤1000) (gd (ile (↑(List.length x0):Int) 8=true→ile (↑(List.length x0):Int) 8=true) (gd (ile (↑(List.length x0):Int) 8=true→ile (↑(List.length x0):Int) 8=true) (gd ((bif ile (↑(List.length x0):Int) 8 then !List.any x0 badX else false)=true→(bif ile (↑(List.length x0):Int) 8 then !List.any x0 badX else false)=true∧List.length x0≤1000) (gd ((bif ile (↑(List.length x0):Int) 8 then !List.any x0 badX else false)=true→(bif ile (↑(List.length x0):Int) 8 then !List.any x0 badX else false)=true) (gd ((bif ile (↑(List.length x0):Int) 8 then !List.any x0 badX else false)=true→(bif ile (↑(List.length x0):Int) 8 then !List.any x0 badX else false)=true) (some ((bif bif ile (↑(List.length x0):Int) 8 then !List.any x0 badX else false then ile (boxW x0) 8 else false,()):Bool×Unit)))))))
def q8n:List LSh:=([]:List LSh)
structure okIn (inner outer m:List Int):Prop where
 il:inner.length≤8
 ol:outer.length≤8
 i0:∀ i:Nat,0≤rowF inner i
 o8:∀ i:Nat,rowF outer i≤8
 od:∀ i:Nat,rowF outer (i+1:Nat)≤rowF outer i
 ins:∀ i:Nat,rowF inner i≤rowF outer i
 ml:m.length≤8
 m8:∀ x∈m,0≤x∧x≤8
def qkw (inner outer m:List Int):List (List (List Int)):=if wr .i64 (boxW outer-boxW inner)=boxW m then fil inner outer m.length false 81 m [] else []
def q01:SCon:=mkS 68 [.v LI,.v LI,.v LI,.fn 69 (.cons (.ref 0 1 0 0) .nil)] [.cells [.slf 1 1],.arr LLI true] [] [.cells [.slf 2 1],.dead,.arr LLI true] (fun (inner outer m:List Int) (out:List (List (List Int)))=>[okIn inner outer m∧out.length+(qkw inner outer m).length≤500000000]) (fun (inner outer m:List Int) (out:List (List (List Int)))=>(out++qkw inner outer m,()))
def g68 (x0 x1 x2:List Int) (x3:List (List (List Int))):Option (List (List (List Int))×Unit):=gd (List.length x1≤1000) (gd (List.length x0≤1000) (gd (List.length x2≤1000) (bif !ieq (wr .i64 (boxW x1-boxW x0)) (boxW x2) then gd (List.length x3=List.length x3) (some ((x3,()):List (List (List Int))×Unit)) else gd ((0:Nat)≤0) (gd ((0+List.length x2)*(8:Nat)≤1099511627776) (gd (0+List.length x2=List.length x2) (gd ((0:Nat)=0) (gd (List.length x3=List.length x3) (gd (preA 81 x0 x1 x2 (↑(List.length x2):Int) ([]:List (List Int)) x3) (gd (List.length (x3++fil x0 x1 (↑(List.length x2):Int) false 81 x2 ([]:List (List Int)))=List.length (x3++fil x0 x1 (↑(List.length x2):Int) false 81 x2 ([]:List (List Int)))) (some ((x3++fil x0 x1 (↑(List.length x2):Int) false 81 x2 ([]:List (List Int)),()):List (List (List Int))×Unit)))))))))))
def q8e:List LSh:=([]:List LSh)
def qct (l m:List Int):List (List (List Int))×Int×Unit:=if qad l=true∧qgu m=true then (qkw [] l m,0,()) else ([],2,())
def q0u:Con:=mkC 19 [.d LI,.d LI] [L3I,I64] (fun (l m:List Int)=>[l.length≤1000∧m.length≤1000]) (fun (l m:List Int)=>qct l m)
def g19 (x0 x1:List Int):Option (List (List (List Int))×Int×Unit):=gd (List.length x0≤1000) (gd ((!!qad x0)=true→(!!qad x0)=true∧List.length x1≤1000) (gd ((!!qad x0)=true→(!!qad x0)=true) (gd ((!qad x0)=false→(!!qad x0)=true) (bif bif !qad x0 then true else !qgu x1 then some ((([]:List (List (List Int))),2,()):List (List (List Int))×Int×Unit) else gd ((0:Nat)=0) (gd (okIn ([]:List Int) x0 x1∧0+List.length (qkw ([]:List Int) x0 x1)≤500000000) (gd (0+List.length (qkw ([]:List Int) x0 x1)≤List.length (qkw ([]:List Int) x0 x1)) (some ((List.take (List.length (qkw ([]:List Int) x0 x1)) (List.drop 0 (qkw ([]:List Int) x0 x1)),0,()):List (List (List Int))×Int×Unit))))))))
def q8d:List LSh:=([]:List LSh)
theorem zcv:qu5.goal Try.prog (spOf []) q7f [5] lm30:=by
 have e:(∀ (l:List Int),l.length≤100000→g39 l=some (l,()))=qu5.goal Try.prog (spOf []) q7f [5] lm30:=by kernel_rfl
 rw [← e];intro l hl;unfold g39
 by_cases h:l.length=0
 ·have:l=[]:=List.length_eq_zero_iff.1 h;subst this;simp [qac,eqO]
 ·simp [qac,eqO,h];rw [qab (by omega)]
theorem ok39:qu5.Ok Try.prog:=Con.of_goal qb4 okN qu5 zcv
theorem q9b {a b:Int}:imin a b=min a b:=by unfold imin;split<;>omega
theorem zb1:q0v.goal Try.prog (spOf [qu5]) q7x [] lm30:=by
 have e:(∀ (l:List Int),g20 l=some (l.take 12,()))=q0v.goal Try.prog (spOf [qu5]) q7x [] lm30:=by kernel_rfl
 rw [← e];intro l;unfold g20;have h:imin (l.length:Int) 12=((min l.length 12:Nat):Int):=by rw [q9b];omega
 rw [h,wad,qab ⟨by omega,by omega⟩,qab (by simp;omega)]
 congr 2
 rcases Nat.le_total l.length 12 with h1 | h1
 ·rw [Nat.min_eq_left h1,wal (wae _),wal h1]
 ·rw [Nat.min_eq_right h1]
theorem ok20:q0v.Ok Try.prog:=Con.of_goal qb4 (okC ok39 okN) q0v zb1
theorem zcr:qmk.goal Try.prog (spOf []) q7z [] lm30:=by
 have e:(∀ (l:List Int),l.length≤1000→g86 l=some (boxW l,()))=qmk.goal Try.prog (spOf []) q7z [] lm30:=by kernel_rfl
 rw [← e];intro l hl;unfold g86;refine qk9 (fun i=>(boxW (l.take i),(i:Int),())) l.length _ (fun i hi=>?_) ?_
 ·have h4:wr .i64 ((i:Int)+1)=((i+1:Nat):Int):=(qam (by omega)).trans (by omega)
  simp only [qak.2 (show (i:Int)<l.length by omega),wbs,wad,h4]
  have h5:boxW (l.take (i+1))=wr .i64 (boxW (l.take i)+l.getD i 0):=by
   unfold boxW;rw [List.take_succ_eq_append_getElem hi,List.foldl_append,waa,wab hi];rfl
  rw [qab ⟨by omega,by omega⟩,h5]
 ·simp [ilt]
theorem ok86:qmk.Ok Try.prog:=Con.of_goal qb4 okN qmk zcr
theorem qz8 {S X : Type} {step : S → Option (Lp S X)} (st : Nat → S) (ok : Nat → Bool) (n:Nat) (xf xt : X) (hgo : ∀ i, i < n → ok i = true → step (st i) = some (.go (st (i + 1)))) (hbad : ∀ i, i < n → ok i = false → step (st i) = some (.out xf)) (hout : step (st n) = some (.out xt)) :
    qat step (st 0)=some (if (List.range n).all ok=true then xt else xf):=by
  have key:∀ c i,i+c=n→qat step (st i)=some (if (List.range' i c).all ok=true then xt else xf):=by
    intro c
    induction c with
    | zero => intro i hi; have : i = n := by omega
              subst this;simpa using qa8 hout
    | succ c ih =>
      intro i hi
      cases h:ok i with
      | true=>rw [qb9 (hgo i (by omega) h),ih (i+1) (by omega),List.range'_succ,List.all_cons,h,wb1]
      | false=>rw [qa8 (hbad i (by omega) h),List.range'_succ,List.all_cons,h,wb3];rfl
  rw [List.range_eq_range'];exact key n 0 (by omega)
theorem qhf {S X:Type} {step:S→Option (Lp S X)} (st:Nat→S) (ok:Nat→Bool) (n:Nat) (xf xt y:X) (hst:∀ i,i<n→step (st i)=some (if ok i=true then .go (st (i+1)) else .out xf)) (hout:step (st n)=some (.out xt)) (hy:(if (List.range n).all ok=true then xt else xf)=y) :
  qat step (st 0)=some y:=by
 rw [← hy];exact qz8 st ok n xf xt (fun i hi h=>(hst i hi).trans (by rw [if_pos h])) (fun i hi h=>(hst i hi).trans (by rw [h];rfl)) hout
theorem qm6 {l:List Int} (h:∀ x∈l,0≤x∧x≤8) (hl:l.length≤100000):boxW l=l.sum:=by
 have key:∀ (l:List Int) (s:Int),(∀ x∈l,0≤x∧x≤8)→0≤s→s+8*l.length≤9000000→l.foldl (fun s x=>wr .i64 (s+x)) s=s+l.sum:=by
  intro l
  induction l with
  | nil=>intro s _ _ _;simp
  | cons a l ih =>
   intro s h h0 hs;have ha:=h a (by simp)
   simp only [wbf] at hs;rw [wcg,qam (by omega),ih (s+a) (fun x hx=>h x (by simp [hx])) (by omega) (by omega),List.sum_cons]
   omega
 have:=key l 0 h (by omega) (by omega)
 unfold boxW;omega
theorem qcc {l:List Int} {i:Nat}:qfy l i=true↔(1≤l.getD i 0∧l.getD i 0≤8)∧(i=0∨l.getD i 0≤l.getD (i-1) 0):=by
 simp [qfy,waa]
theorem zbs:qmp.goal Try.prog (spOf [qmk]) q7t [] lm30:=by
 have e:(∀ (l:List Int),l.length≤1000→g66 l=some (qad l,()))=qmp.goal Try.prog (spOf [qmk]) q7t [] lm30:=by kernel_rfl
 rw [← e];intro l hl;unfold g66
 by_cases h8:l.length≤8
 ·rw [qf6 (qag.2 (by omega))]
  refine qhf (fun i=>((i:Int),())) (qfy l) l.length (false,()) (decide (boxW l≤8),()) _ ?_ ?_ ?_
  rotate_left
  ·simp [ilt,gd,hl,ile]
  ·by_cases hr:(List.range l.length).all (qfy l)=true
   ·have hs:boxW l=l.sum:=qm6 (fun x hx=>by
     obtain ⟨i,hi,rfl⟩:=List.getElem_of_mem hx;have:=(qcc.1 (List.all_eq_true.1 hr i (List.mem_range.2 hi))).1;rw [waa,wab hi] at this;simp at this;omega) (by omega)
    simp only [qad,hr,h8,hs];simp
   ·simp [qad,hr]
  intro i hi;have h4:wr .i64 ((i:Int)+1)=((i+1:Nat):Int):=(qam (by omega)).trans (by omega)
  simp only [qak.2 (show (i:Int)<l.length by omega),wbs,wad,h4]
  rw [qab ⟨by omega,by omega⟩]
  simp only [imp_self,qac]
  by_cases h1:l.getD i 0<1
  ·have:qfy l i=false:=by simp only [qfy,decide_eq_false (show ¬ 1≤l.getD i 0 by omega),wb3]
   rw [this];generalize l.getD i 0=v at h1;simp [qak.2 h1,qac]
  by_cases h2:8<l.getD i 0
  ·have:qfy l i=false:=by simp only [qfy,decide_eq_false (show ¬ l.getD i 0≤8 by omega),wb3,wb2]
   rw [this];generalize l.getD i 0=v at h1 h2;simp [qag.2 (show (1:Int)≤v by omega),qak.2 h2,qac]
  cases i with
  | zero =>
   have:qfy l 0=true:=qcc.2 ⟨by omega,Or.inl rfl⟩
   rw [this];have h3:ilt (0:Int) ((0:Nat):Int)=false:=by decide
   generalize l.getD 0 0=v at h1 h2;simp only [qag.2 (show (1:Int)≤v by omega),qag.2 (show v≤8 by omega),h3]
   simp [qac]
  | succ i =>
   have h3:ilt (0:Int) ((i+1:Nat):Int)=true:=qak.2 (by omega)
   have h5:wr .i64 (((i+1:Nat):Int)-1)=(i:Int):=(qam (by omega)).trans (by omega)
   simp only [qag.2 (show (1:Int)≤l.getD (i+1) 0 by omega),qag.2 (show l.getD (i+1) 0≤8 by omega),h3,h5,wad,qac,wbs,wbr,wbh,wbz,imp_self,true_and,wbp]
   rw [qab ⟨by omega,by omega⟩]
   by_cases h6:l.getD i 0<l.getD (i+1) 0
   ·have:qfy l (i+1)=false:=Bool.eq_false_iff.2 (fun h=>by have:=(qcc.1 h).2;simp only [wcc] at this;omega)
    rw [qfs (qak.2 h6),this];rfl
   ·have:qfy l (i+1)=true:=qcc.2 ⟨by omega,Or.inr (by simp only [wcc];omega)⟩
    rw [qf6 (qag.2 (by omega)),this];rfl
 ·rw [qfs (qak.2 (by omega))]
  simp [qad,h8]
theorem ok66:qmp.Ok Try.prog:=Con.of_goal qb4 (okC ok86 okN) qmp zbs
theorem q9w:qqj.goal Try.prog (spOf []) q22 [] lm30:=by
 have e:(∀ (x:Int),g108 x=some (badX x,()))=qqj.goal Try.prog (spOf []) q22 [] lm30:=by kernel_rfl
 rw [← e];intro x;unfold g108 badX ilt
 by_cases h:x<0
 ·simp [qac,h]
 ·simp [qac,h]
theorem zdo:qqj.Ok Try.prog:=Con.of_goal qb4 okN qqj q9w
theorem q96:qqh.goal Try.prog (spOf [qqj]) q3o [] lm30:=by
 have e:(∀ (l:List Int),l.length≤1000→g131 l=some (qot l 0,()))=qqh.goal Try.prog (spOf [qqj]) q3o [] lm30:=by kernel_rfl
 rw [← e];intro l hl;unfold g131;have key:∀ (c i:Nat),i+c=l.length→(fun (y:Option (Int×Unit))=>y=some (qot (l.drop i) i,())) (qat (fun (d1:Int×Unit)=>bif ilt d1.1 (↑(List.length l):Int) then gd ((0:Int)≤d1.1∧d1.1<(↑(List.length l):Int)) (bif badX (List.getD l (Int.toNat d1.1) (0:Int)) then some (Lp.out ((d1.1,()):Int×Unit)) else some (Lp.go ((wr .i64 (d1.1+(1:Int)),()):Int×Unit))) else some (Lp.out (((-1:Int),()):Int×Unit))) ((i:Int),())):=by
  intro c
  induction c with
  | zero =>
   intro i hi;have:i=l.length:=by omega
   subst this;refine qa8 ?_;simp [ilt,qot]
  | succ c ih =>
   intro i hi;have hlt:i<l.length:=by omega
   have h1:ilt (i:Int) (l.length:Int)=true:=qak.2 (by omega)
   have h4:wr .i64 ((i:Int)+1)=((i+1:Nat):Int):=(qam (by omega)).trans (by omega)
   have h5:l.getD i 0=l[i]:=by simp [waa,wab hlt]
   rw [List.drop_eq_getElem_cons hlt]
   cases hb:badX l[i] with
   | true =>
    refine qa8 ?_;simp only [h1,wbs,wad,h5,hb,qot,if_true];rw [qab ⟨by omega,by omega⟩]
   | false =>
    refine (qb9 (s':=(((i+1:Nat):Int),())) ?_).trans ?_
    ·simp only [h1,wbs,wad,h5,hb,wbr,h4];rw [qab ⟨by omega,by omega⟩]
    ·have:=ih (i+1) (by omega)
     simp only [qot,hb];simpa using this
 exact key l.length 0 (by omega)
theorem zc8:qqh.Ok Try.prog:=Con.of_goal qb4 (okC zdo okN) qqh q96
theorem qt3:∀ {l:List Int} {i:Int},0≤i→(0≤qot l i↔l.any badX=true)
 | [],i,h=>by simp [qot]
 | x::l,i,h=>by
  unfold qot
  cases hb:badX x with
  | true=>simp [hb,h]
  | false=>simp only [List.any_cons,hb,Bool.false_or];exact qt3 (by omega)
theorem zaw:qp6.goal Try.prog (spOf [qqh]) q30 [] lm30:=by
 have e:(∀ (l:List Int),l.length≤1000→g107 l=some (l.any badX,()))=qp6.goal Try.prog (spOf [qqh]) q30 [] lm30:=by kernel_rfl
 rw [← e];intro l hl;unfold g107;rw [qab hl];congr 2;rw [Bool.eq_iff_iff,qd9];exact qt3 (by omega)
theorem zdd:qp6.Ok Try.prog:=Con.of_goal qb4 (okC zc8 okN) qp6 zaw
theorem qx5 {x:Int}:badX x=false↔0≤x∧x≤8:=by unfold badX;simp
theorem zbh:qzm.goal Try.prog (spOf [qp6,qmk]) q8n [] lm30:=by
 have e:(∀ (l:List Int),l.length≤1000→g67 l=some (qgu l,()))=qzm.goal Try.prog (spOf [qp6,qmk]) q8n [] lm30:=by kernel_rfl
 rw [← e];intro l hl;unfold g67 qgu;have hany:(!l.any badX)=l.all (fun x=>decide (0≤x) && decide (x≤8)):=by
  rw [Bool.eq_iff_iff];simp only [Bool.not_eq_true',List.any_eq_false,wb9,wbc,wbn];exact ⟨fun h x hx=>qx5.1 (Bool.eq_false_iff.2 (h x hx)),fun h x hx=>Bool.eq_false_iff.1 (qx5.2 (h x hx))⟩
 have hle:ile (l.length:Int) 8=decide (l.length≤8):=by rw [Bool.eq_iff_iff,qd9,decide_eq_true_iff];omega
 rw [hle,hany];simp only [imp_self,qac,hl,and_true]
 by_cases h1:l.all (fun x=>decide (0≤x) && decide (x≤8))=true
 ·have hs:boxW l=l.sum:=qm6 (fun x hx=>by simpa using List.all_eq_true.1 h1 x hx) (by omega)
  rw [h1,hs];cases decide (l.length≤8)<;>simp [qac,ile]
 ·rw [Bool.eq_false_iff.2 h1];cases decide (l.length≤8)<;>simp [qac]
theorem ok67:qzm.Ok Try.prog:=Con.of_goal qb4 (okC zdd (okC ok86 okN)) qzm zbh
theorem qx8 {A:Type} {g:Int→List A} {B:Nat}:∀ (c:Nat) (x:Int),(∀ y,x≤y→y<x+c→(g y).length≤B)→(catX g c x).length≤c*B
 | 0,x,h=>by simp [catX]
 | c+1,x,h=>by
  have h1:=h x (by omega) (by omega)
  have h2:=qx8 c (x+1) (fun y h1 h2=>h y (by omega) (by omega))
  rw [catX,waf,Nat.succ_mul];omega
theorem qxg {A:Type} {g:Int→List A}:∀ (c:Nat) (x:Int),(∀ y,x≤y→y<x+c→g y=[])→catX g c x=[]
 | 0,x,h=>rfl
 | c+1,x,h=>by rw [catX,h x (by omega) (by omega),qxg c (x+1) (fun y h1 h2=>h y (by omega) (by omega))];rfl
def sumN (l:List Int):Nat:=(l.map Int.toNat).sum
theorem qmw:∀ {l:List Int} {p:Nat},p<l.length→0<l.getD p 0→sumN (l.set p (l.getD p 0-1))+1=sumN l
 | [],p,h,_=>by simp at h
 | a::l,0,h,h1=>by simp [sumN] at h1 ⊢;omega
 | a::l,p+1,h,h1=>by
  have:=qmw (l:=l) (p:=p) (by simpa using h) (by simpa using h1)
  simp only [sumN,List.set_cons_succ,wbv,List.sum_cons,List.getD_cons_succ] at this ⊢;omega
theorem qq6 {inner:List Int} {rows:List (List Int)}:1≤qcu inner rows:=by unfold qcu;split<;>omega
theorem qrl {inner outer:List Int} {most:Int} (hm:most≤8):∀ (n:Nat) (left:List Int) (rows:List (List Int)),(left.length:Int)=most→(∀ x∈left,0≤x)→(fil inner outer most false n left rows).length≤8 ^ sumN left
 | 0,left,rows,hl,h=>by simp [fil]
 | n+1,left,rows,hl,h=>by
  have h1:1≤8 ^ sumN left:=Nat.one_le_pow _ _ (by omega)
  rw [fil];split
  ·split
   ·simpa using h1
   ·exact qrl hm n left _ hl h
  ·have hp:=qq6 (inner:=inner) (rows:=rows);generalize qcu inner rows=x0 at hp;have hz0:∀ q,left.length≤q→left.getD q 0=0:=fun q hq=>by simp [waa,wac hq]
   have hge:∀ q (hq:q<left.length),0≤left.getD q 0:=fun q hq=>by
    rw [waa,wab hq];exact h _ (wav hq)
   by_cases hs:sumN left=0
   ·rw [qxg]
    ·simp
    intro y h2 h3;unfold useX;generalize (y-1).toNat=q;have hz:left.getD q 0=0:=by
     by_cases hlt:q<left.length
     ·have:=hge q hlt
      by_cases h0:0<left.getD q 0
      ·have:=qmw hlt h0;omega
      ·omega
     ·exact hz0 q (by omega)
    rw [if_neg (by simp),if_pos hz]
   ·obtain ⟨k,hk⟩:∃ k,sumN left=k+1:=⟨sumN left-1,by omega⟩
    refine Nat.le_trans (qx8 (B:=8 ^ k) _ _ fun y h2 h3=>?_) ?_
    ·unfold useX;generalize (y-1).toNat=q;rw [if_neg (by simp)]
     split
     ·simp
     ·rename_i hne
      by_cases hlt:q<left.length
      ·have hnn:=hge q hlt;have h0:0<left.getD q 0:=by omega
       have h4:=qmw hlt h0;have e2:sumN (left.set q (left.getD q 0-1))=k:=by omega
       rw [← e2];refine qrl hm n _ _ (by simpa using hl) fun z hz=>?_
       rcases List.mem_or_eq_of_mem_set hz with h5 | h5
       ·exact h z h5
       ·omega
      ·exact absurd (hz0 q (by omega)) hne
    ·rw [hk,Nat.pow_succ,Nat.mul_comm];exact Nat.mul_le_mul_left _ (by omega)
theorem okIn.pre {inner outer m:List Int} (h:okIn inner outer m):preM 81 inner outer m m.length false [] where
 il:=h.il
 ol:=h.ol
 i0:=h.i0
 o8:=h.o8
 od:=h.od
 ins:=h.ins
 len:=by simp
 fl:=fun i hi=>by simp at hi
 la:=fun i hi=>by simp at hi
 ent:=fun r hr=>by simp at hr
 mo:=by have:=h.ml;omega
 lf:=fun _=>⟨rfl,h.m8⟩
 mu:=by have:=h.ol;simp;omega
theorem za8:q01.goal Try.prog (spS [qmn 81] [qmk]) q8e [18] lm30:=by
 have e:(∀ (inner outer m:List Int) (out:List (List (List Int))),(okIn inner outer m∧out.length+(qkw inner outer m).length≤500000000)→g68 inner outer m out=some (out++qkw inner outer m,()))=q01.goal Try.prog (spS [qmn 81] [qmk]) q8e [18] lm30:=by kernel_rfl
 rw [← e];rintro inner outer m out ⟨h,hb⟩;have h1:=h.il;have h2:=h.ol;have h3:=h.ml;unfold g68;rw [qab (by omega),qab (by omega),qab (by omega)]
 unfold qkw at hb ⊢
 by_cases hs:wr .i64 (boxW outer-boxW inner)=boxW m
 ·rw [if_pos hs] at hb ⊢;rw [qcb.2 hs];simp only [wbi,wbr];rw [qab (by omega),qab (by omega),qab (by omega)]
  simp only [qac];rw [qab ⟨h.pre,hb⟩]
 ·rw [if_neg hs,qa5.2 hs];simp [qac]
theorem ok68:q01.Ok Try.prog:=SCon.of_goal qb4 (okC ok86 okN) (okS (ok77 81) okS0) q01 za8
theorem qog {m:List Int}:qgu m=true↔m.length≤8∧(∀ x∈m,0≤x∧x≤8)∧m.sum≤8:=by
 simp [qgu,and_assoc]
theorem qal {l:List Int}:qad l=true↔l.length≤8∧(∀ i,i<l.length→qfy l i=true)∧l.sum≤8:=by
 simp [qad,and_assoc]
theorem qba {l:List Int} {i:Nat}:rowF l (i:Int)=l.getD i 0:=by
 have:¬ (i:Int)<0:=by omega
 simp [rowF,this]
theorem qaz {l:List Int} (h:qad l=true) (i:Nat):0≤rowF l i∧rowF l i≤8∧rowF l (i+1:Nat)≤rowF l i:=by
 have h:=(qal.1 h).2.1;have hget:∀ i,l.length≤i→l.getD i 0=0:=fun i hi=>by simp [waa,wac hi]
 rw [qba,qba];have h1:0≤l.getD i 0∧l.getD i 0≤8:=by
  by_cases hi:i<l.length
  ·have:=(qcc.1 (h i hi)).1;omega
  ·rw [hget i (by omega)];omega
 refine ⟨h1.1,h1.2,?_⟩
 by_cases hi:i+1<l.length
 ·have:=(qcc.1 (h (i+1) hi)).2;simpa using this
 ·rw [hget (i+1) (by omega)];omega
theorem qby {l:List Int} (h:qad l=true):∀ x∈l,1≤x∧x≤8:=fun x hx=>by
 obtain ⟨i,hi,rfl⟩:=List.getElem_of_mem hx;have:=(qcc.1 ((qal.1 h).2.1 i hi)).1;rw [waa,wab hi] at this;simpa using this
theorem qv2 {a l m:List Int} (ha:qad a=true) (h:qad l=true) (hm:qgu m=true) (hin:∀ i:Nat,rowF a i≤rowF l i):okIn a l m where
 il:=(qal.1 ha).1
 ol:=(qal.1 h).1
 i0:=fun i=>(qaz ha i).1
 o8:=fun i=>(qaz h i).2.1
 od:=fun i=>(qaz h i).2.2
 ins:=hin
 ml:=(qog.1 hm).1
 m8:=(qog.1 hm).2.1
theorem q5a {i:Int}:rowF [] i=0:=by simp [rowF]
theorem q5w {l m:List Int} (h:qad l=true) (hm:qgu m=true):okIn [] l m:=qv2 (by decide) h hm (fun i=>by rw [q5a];exact (qaz h i).1)
theorem qrz:∀ {m:List Int},(∀ x∈m,0≤x)→(sumN m:Int)=m.sum
 | [],_=>rfl
 | a::m,h=>by
  have h1:=qrz (m:=m) (fun x hx=>h x (by simp [hx]))
  have h2:=h a (by simp)
  simp only [sumN,wbv,List.sum_cons] at h1 ⊢;omega
theorem q7r {inner outer m:List Int} (hm:qgu m=true):(fil inner outer m.length false 81 m []).length≤16777216:=by
 obtain ⟨h1,h2,h3⟩:=qog.1 hm;refine Nat.le_trans (qrl (by omega) 81 m [] rfl (fun x hx=>(h2 x hx).1)) ?_
 have:=qrz (fun x hx=>(h2 x hx).1)
 exact Nat.le_trans (Nat.pow_le_pow_right (by omega) (show sumN m≤8 by omega)) (by decide)
theorem q9k {inner outer m:List Int} (hm:qgu m=true):(qkw inner outer m).length≤16777216:=by
 unfold qkw;split
 ·exact q7r hm
 ·simp
theorem zba:q0u.goal Try.prog (spS [q01] [qmp,qzm]) q8d [] lm30:=by
 have e:(∀ (l m:List Int),(l.length≤1000∧m.length≤1000)→g19 l m=some (qct l m))=q0u.goal Try.prog (spS [q01] [qmp,qzm]) q8d [] lm30:=by kernel_rfl
 rw [← e];rintro l m ⟨h1,h2⟩;unfold g19 qct;rw [qab h1]
 cases hs:qad l with
 | false=>simp [qac]
 | true =>
  cases hm:qgu m with
  | false=>simp [qac,h2]
  | true =>
   have:=q9k (inner:=[]) (outer:=l) hm;have hp:okIn [] l m∧0+(qkw [] l m).length≤500000000:=⟨q5w hs hm,by omega⟩
   simp [qac,h2,hp.1];rw [qab (by omega)]
theorem ok19:q0u.Ok Try.prog:=Con.of_goalS qb4 (okC ok66 (okC ok67 okN)) (okS ok68 okS0) q0u zba
end
end Go.Schur
