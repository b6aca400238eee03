/- Fillings: contracts of the reference and of the law. -/
import Derived.Test.YtobghbapmlnmoaaXC
set_option maxRecDepth 100000
set_option linter.unusedVariables false
set_option linter.unusedSimpArgs false
namespace Go.Schur
noncomputable section
open Go Go.Ab Go.Proofs
def qzu:Con:=mkC 37 [.d LI] [I64] (fun (l:List Int)=>[l.length≤1000]) (fun (l:List Int)=>(boxW l,()))
def g37 (x0:List Int):Option (Int×Unit):=qat (fun (d1:Int×Int×Unit)=>bif ilt d1.2.1 (↑(List.length x0):Int) then gd (0≤d1.2.1∧d1.2.1<(↑(List.length x0):Int)) (some (Lp.go ((wr .i64 (d1.1+List.getD x0 (Int.toNat d1.2.1) 0),wr .i64 (d1.2.1+1),()):Int×Int×Unit))) else some (Lp.out ((d1.1,()):Int×Unit))) ((0,0,()):Int×Int×Unit)
def q7h:List LSh:=LSh.mk (((3,TV.v (Ty.int .i64)):Nat×TV)::((8,TV.v (Ty.int .i64)):Nat×TV)::([]:List (Nat×TV))) ([]:List TB)::([]:List LSh)
def qvj:Con:=mkC 22 [.d LI] [.bool] (fun (l:List Int)=>[small l]) (fun (l:List Int)=>(qad l,()))
open List Int in
def g22 (x0:List Int):Option (Bool×Unit):=qat (fun (d1:Int×Int×Unit)=>bif ilt d1.2.1 (↑(length x0):Int) then gd (0≤d1.2.1∧d1.2.1<(↑(length x0):Int)) (gd ((!ilt (getD x0 (toNat d1.2.1) 0) 1)=true→(!ilt (getD x0 (toNat d1.2.1) 0) 1)=true) (gd (ilt (getD x0 (toNat d1.2.1) 0) 1=false→(!ilt (getD x0 (toNat d1.2.1) 0) 1)=true) (gd ((!bif ilt (getD x0 (toNat d1.2.1) 0) 1 then true else ilt 8 (getD x0 (toNat d1.2.1) 0))=true→(!bif ilt (getD x0 (toNat d1.2.1) 0) 1 then true else ilt 8 (getD x0 (toNat d1.2.1) 0))=true) (gd (((!bif ilt (getD x0 (toNat d1.2.1) 0) 1 then true else ilt 8 (getD x0 (toNat d1.2.1) 0)) && ((!bif ilt (getD x0 (toNat d1.2.1) 0) 1 then true else ilt 8 (getD x0 (toNat d1.2.1) 0)) && ilt 0 d1.2.1))=true→((!bif ilt (getD x0 (toNat d1.2.1) 0) 1 then true else ilt 8 (getD x0 (toNat d1.2.1) 0)) && ((!bif ilt (getD x0 (toNat d1.2.1) 0) 1 then true else ilt 8 (getD x0 (toNat d1.2.1) 0)) && ilt 0 d1.2.1))=true) (gd (((!bif ilt (getD x0 (toNat d1.2.1) 0) 1 then true else ilt 8 (getD x0 (toNat d1.2.1) 0)) && ((!bif ilt (getD x0 (toNat d1.2.1) 0) 1 then true else ilt 8 (getD x0 (toNat d1.2.1) 0)) && ilt 0 d1.2.1))=true→((!bif ilt (getD x0 (toNat d1.2.1) 0) 1 then true else ilt 8 (getD x0 (toNat d1.2.1) 0)) && ((!bif ilt (getD x0 (toNat d1.2.1) 0) 1 then true else ilt 8 (getD x0 (toNat d1.2.1) 0)) && ilt 0 d1.2.1))=true∧((!bif ilt (getD x0 (toNat d1.2.1) 0) 1 then true else ilt 8 (getD x0 (toNat d1.2.1) 0)) && ((!bif ilt (getD x0 (toNat d1.2.1) 0) 1 then true else ilt 8 (getD x0 (toNat d1.2.1) 0)) && ilt 0 d1.2.1))=true∧0≤wr .i64 (d1.2.1-1)∧wr .i64 (d1.2.1-1)<(↑(length x0):Int)) (gd (((!bif ilt (getD x0 (toNat d1.2.1) 0) 1 then true else ilt 8 (getD x0 (toNat d1.2.1) 0)) && ((!bif ilt (getD x0 (toNat d1.2.1) 0) 1 then true else ilt 8 (getD x0 (toNat d1.2.1) 0)) && ilt 0 d1.2.1))=true→((!bif ilt (getD x0 (toNat d1.2.1) 0) 1 then true else ilt 8 (getD x0 (toNat d1.2.1) 0)) && ((!bif ilt (getD x0 (toNat d1.2.1) 0) 1 then true else ilt 8 (getD x0 (toNat d1.2.1) 0)) && ilt 0 d1.2.1))=true) (gd (((!bif ilt (getD x0 (toNat d1.2.1) 0) 1 then true else ilt 8 (getD x0 (toNat d1.2.1) 0)) && ((!bif ilt (getD x0 (toNat d1.2.1) 0) 1 then true else ilt 8 (getD x0 (toNat d1.2.1) 0)) && ilt 0 d1.2.1))=true→((!bif ilt (getD x0 (toNat d1.2.1) 0) 1 then true else ilt 8 (getD x0 (toNat d1.2.1) 0)) && ((!bif ilt (getD x0 (toNat d1.2.1) 0) 1 then true else ilt 8 (getD x0 (toNat d1.2.1) 0)) && ilt 0 d1.2.1))=true∧((!bif ilt (getD x0 (toNat d1.2.1) 0) 1 then true else ilt 8 (getD x0 (toNat d1.2.1) 0)) && ((!bif ilt (getD x0 (toNat d1.2.1) 0) 1 then true else ilt 8 (getD x0 (toNat d1.2.1) 0)) && ilt 0 d1.2.1))=true) (gd ((!bif ilt (getD x0 (toNat d1.2.1) 0) 1 then true else ilt 8 (getD x0 (toNat d1.2.1) 0))=true→(!bif ilt (getD x0 (toNat d1.2.1) 0) 1 then true else ilt 8 (getD x0 (toNat d1.2.1) 0))=true∧(!bif ilt (getD x0 (toNat d1.2.1) 0) 1 then true else ilt 8 (getD x0 (toNat d1.2.1) 0))=true∧(ilt 0 d1.2.1=true→((!bif ilt (getD x0 (toNat d1.2.1) 0) 1 then true else ilt 8 (getD x0 (toNat d1.2.1) 0)) && ((!bif ilt (getD x0 (toNat d1.2.1) 0) 1 then true else ilt 8 (getD x0 (toNat d1.2.1) 0)) && ilt 0 d1.2.1))=true)) (gd ((bif ilt (getD x0 (toNat d1.2.1) 0) 1 then true else ilt 8 (getD x0 (toNat d1.2.1) 0))=false→(!bif ilt (getD x0 (toNat d1.2.1) 0) 1 then true else ilt 8 (getD x0 (toNat d1.2.1) 0))=true) (bif bif bif ilt (getD x0 (toNat d1.2.1) 0) 1 then true else ilt 8 (getD x0 (toNat d1.2.1) 0) then true else bif ilt 0 d1.2.1 then ilt (getD x0 (toNat (wr .i64 (d1.2.1-1))) 0) (getD x0 (toNat d1.2.1) 0) else false then some (Lp.out ((false,()):Bool×Unit)) else bif ilt 8 (wr .i64 (d1.1+getD x0 (toNat d1.2.1) 0)) then some (Lp.out ((false,()):Bool×Unit)) else some (Lp.go ((wr .i64 (d1.1+getD x0 (toNat d1.2.1) 0),wr .i64 (d1.2.1+1),()):Int×Int×Unit)))))))))))) else some (Lp.out ((true,()):Bool×Unit))) ((0,0,()):Int×Int×Unit)
def q7o:List LSh:=LSh.mk (((3,TV.v (Ty.int .i64)):Nat×TV)::((8,TV.v (Ty.int .i64)):Nat×TV)::([]:List (Nat×TV))) ([]:List TB)::([]:List LSh)
def eqL1 (a b:List Int):Bool:=decide (a=b)
def eqL2 (a b:List (List Int)):Bool:=decide (a=b)
def qzp:Con:=mkC 51 [.d LI,.d LI] [.bool] (fun (a b:List Int)=>[small a]) (fun (a b:List Int)=>(eqL1 a b,()))
def g51 (x0 x1:List Int):Option (Bool×Unit):=bif !ieq (↑(List.length x0):Int) (↑(List.length x1):Int) then some ((false,()):Bool×Unit) else qat (fun (d2:Int×Unit)=>bif ilt d2.1 (↑(List.length x0):Int) then gd (0≤d2.1∧d2.1<(↑(List.length x0):Int)) (gd (0≤d2.1∧d2.1<(↑(List.length x1):Int)) (bif !ieq (List.getD x0 (Int.toNat d2.1) 0) (List.getD x1 (Int.toNat d2.1) 0) then some (Lp.out ((false,()):Bool×Unit)) else some (Lp.go ((wr .i64 (d2.1+1),()):Int×Unit)))) else some (Lp.out ((true,()):Bool×Unit))) ((0,()):Int×Unit)
def q8k:List LSh:=LSh.mk (((13,TV.v (Ty.int .i64)):Nat×TV)::([]:List (Nat×TV))) ([]:List TB)::([]:List LSh)
def q03:Con:=mkC 74 [.d LLI,.d LLI,.fn 51 []] [.bool] (fun (a b:List (List Int))=>[small a∧∀ r∈a,small r]) (fun (a b:List (List Int))=>(eqL2 a b,()))
def g74 (x0 x1:List (List Int)):Option (Bool×Unit):=bif !ieq (↑(List.length x0):Int) (↑(List.length x1):Int) then some ((false,()):Bool×Unit) else qat (fun (d2:Int×Unit)=>bif ilt d2.1 (↑(List.length x0):Int) then gd (0≤d2.1∧d2.1<(↑(List.length x0):Int)) (gd (0≤d2.1∧d2.1<(↑(List.length x1):Int)) (gd (small (List.getD x0 (Int.toNat d2.1) ([]:List Int))) (bif !eqL1 (List.getD x0 (Int.toNat d2.1) ([]:List Int)) (List.getD x1 (Int.toNat d2.1) ([]:List Int)) then some (Lp.out ((false,()):Bool×Unit)) else some (Lp.go ((wr .i64 (d2.1+1),()):Int×Unit))))) else some (Lp.out ((true,()):Bool×Unit))) ((0,()):Int×Unit)
def q7c:List LSh:=LSh.mk (((2,TV.fn (51) TV.nil):Nat×TV)::((17,TV.v (Ty.int .i64)):Nat×TV)::([]:List (Nat×TV))) ([]:List TB)::([]:List LSh)
def qtk:Con:=mkC 27 [.d LLI,.d LLI] [.bool] (fun (a b:List (List Int))=>[small a∧∀ r∈a,small r]) (fun (a b:List (List Int))=>(eqL2 a b,()))
def g27 (x0 x1:List (List Int)):Option (Bool×Unit):=gd (small x0∧∀ (x2:List Int),List.Mem x2 x0→small x2) (some ((eqL2 x0 x1,()):Bool×Unit))
def q7d:List LSh:=([]:List LSh)
def qzt:Con:=mkC 24 [] [.bool] [] (true,())
open List Int in
def g24  : Option (Bool×Unit):=gd ((1:Nat)≤1000∧(2:Nat)≤1000) (gd (ieq (qct (1::([]:List Int)) (0::1::([]:List Int))).2.1 0=true→ieq (qct (1::([]:List Int)) (0::1::([]:List Int))).2.1 0=true) (gd (ieq (qct (1::([]:List Int)) (0::1::([]:List Int))).2.1 0=true→ieq (qct (1::([]:List Int)) (0::1::([]:List Int))).2.1 0=true) (gd (ieq (qct (1::([]:List Int)) (0::1::([]:List Int))).2.1 0=true→ieq (qct (1::([]:List Int)) (0::1::([]:List Int))).2.1 0=true) (gd ((bif ieq (qct (1::([]:List Int)) (0::1::([]:List Int))).2.1 0 then ieq (↑(length (qct (1::([]:List Int)) (0::1::([]:List Int))).1):Int) 1 else false)=true→(bif ieq (qct (1::([]:List Int)) (0::1::([]:List Int))).2.1 0 then ieq (↑(length (qct (1::([]:List Int)) (0::1::([]:List Int))).1):Int) 1 else false)=true∧(0:Int)≤0∧0<(↑(length (qct (1::([]:List Int)) (0::1::([]:List Int))).1):Int)) (gd ((bif ieq (qct (1::([]:List Int)) (0::1::([]:List Int))).2.1 0 then ieq (↑(length (qct (1::([]:List Int)) (0::1::([]:List Int))).1):Int) 1 else false)=true→(bif ieq (qct (1::([]:List Int)) (0::1::([]:List Int))).2.1 0 then ieq (↑(length (qct (1::([]:List Int)) (0::1::([]:List Int))).1):Int) 1 else false)=true) (gd ((bif ieq (qct (1::([]:List Int)) (0::1::([]:List Int))).2.1 0 then ieq (↑(length (qct (1::([]:List Int)) (0::1::([]:List Int))).1):Int) 1 else false)=true→(bif ieq (qct (1::([]:List Int)) (0::1::([]:List Int))).2.1 0 then ieq (↑(length (qct (1::([]:List Int)) (0::1::([]:List Int))).1):Int) 1 else false)=true) (gd ((bif ieq (qct (1::([]:List Int)) (0::1::([]:List Int))).2.1 0 then ieq (↑(length (qct (1::([]:List Int)) (0::1::([]:List Int))).1):Int) 1 else false)=true→(bif ieq (qct (1::([]:List Int)) (0::1::([]:List Int))).2.1 0 then ieq (↑(length (qct (1::([]:List Int)) (0::1::([]:List Int))).1):Int) 1 else false)=true∧(bif ieq (qct (1::([]:List Int)) (0::1::([]:List Int))).2.1 0 then ieq (↑(length (qct (1::([]:List Int)) (0::1::([]:List Int))).1):Int) 1 else false)=true∧small (getD (qct (1::([]:List Int)) (0::1::([]:List Int))).1 0 ([]:List (List Int)))∧∀ (x0:List Int),List.Mem x0 (getD (qct (1::([]:List Int)) (0::1::([]:List Int))).1 0 ([]:List (List Int)))→small x0) (gd ((bif ieq (qct (1::([]:List Int)) (0::1::([]:List Int))).2.1 0 then ieq (↑(length (qct (1::([]:List Int)) (0::1::([]:List Int))).1):Int) 1 else false)=true→(bif ieq (qct (1::([]:List Int)) (0::1::([]:List Int))).2.1 0 then ieq (↑(length (qct (1::([]:List Int)) (0::1::([]:List Int))).1):Int) 1 else false)=true) (some ((bif bif ieq (qct (1::([]:List Int)) (0::1::([]:List Int))).2.1 0 then ieq (↑(length (qct (1::([]:List Int)) (0::1::([]:List Int))).1):Int) 1 else false then eqL2 (getD (qct (1::([]:List Int)) (0::1::([]:List Int))).1 0 ([]:List (List Int))) ((2::([]:List Int))::([]:List (List Int))) else false,()):Bool×Unit))))))))))
def q7i:List LSh:=([]:List LSh)
structure preR (n:Nat) (l left:List Int) (rows:List (List Int)) (i:Int):Prop where
 ll:l.length≤8
 l8:∀ k:Nat,l.getD k 0≤8
 ld:∀ k:Nat,l.getD (k+1) 0≤l.getD k 0
 len:rows.length=l.length
 i0:0≤i∧i≤l.length
 fl:∀ k:Nat,(k:Int)<i→((rows.getD k []).length:Int)=l.getD k 0
 la:∀ k:Nat,((rows.getD k []).length:Int)≤l.getD k 0
 lf:left.length≤8∧∀ x∈left,0≤x∧x≤8
 mu:9*(l.length-i.toNat)+(8-(rows.getD i.toNat []).length)<n
theorem qkd {l:List Int} {i:Nat} (hi:i<l.length):boxW (l.take (i+1))=wr .i64 (boxW (l.take i)+l.getD i 0):=by
 unfold boxW;rw [List.take_succ_eq_append_getElem hi,List.foldl_append,waa,wab hi];rfl
theorem zcd:qzu.goal Try.prog (spOf []) q7h [] lm30:=by
 have e:(∀ (l:List Int),l.length≤1000→g37 l=some (boxW l,()))=qzu.goal Try.prog (spOf []) q7h [] lm30:=by kernel_rfl
 rw [← e];intro l hl;unfold g37;refine qk9 (fun i=>(boxW (l.take i),(i:Int),())) l.length _ (fun i hi=>?_) ?_
 ·have h4:wr .i64 ((i:Int)+1)=((i+1:Nat):Int):=(qam (by omega)).trans (by omega)
  simp only [qak.2 (show (i:Int)<l.length by omega),wbs,wad,h4]
  rw [qab ⟨by omega,by omega⟩,qkd hi]
 ·simp [ilt]
theorem ok37:qzu.Ok Try.prog:=Con.of_goal qb4 okN qzu zcd
theorem qzh {l:List Int} (h:(List.range l.length).all (fun i=>qfy l i && !ilt 8 (boxW (l.take (i+1))))=true):∀ i,i≤l.length→boxW (l.take i)=(l.take i).sum∧(i:Int)≤(l.take i).sum∧(l.take i).sum≤8
 | 0,_=>by simp [boxW]
 | i+1,hi=>by
  have ih:=qzh h i (by omega)
  have hok:=List.all_eq_true.1 h i (List.mem_range.2 (by omega))
  simp only [wbc,Bool.not_eq_true'] at hok;have h1:=(qcc.1 hok.1).1;have h2:=qag.1 hok.2;have h3:(l.take (i+1)).sum=(l.take i).sum+l.getD i 0:=by
   rw [List.take_succ_eq_append_getElem (by omega),List.sum_append,waa,wab (by omega)]
   simp
  rw [qkd (by omega),qam (by omega)] at h2
  rw [qkd (by omega),qam (by omega),h3]
  omega
theorem qwx {l:List Int} (h:∀ x∈l,0≤x) (i:Nat):(l.take i).sum≤l.sum:=by
 have h1:l.sum=(l.take i).sum+(l.drop i).sum:=by rw [← List.sum_append,List.take_append_drop]
 have h2:∀ (l:List Int),(∀ x∈l,0≤x)→0≤l.sum:=by
  intro l
  induction l with
  | nil=>intro _;simp
  | cons a l ih=>intro h;have:=ih (fun x hx=>h x (by simp [hx]));have:=h a (by simp);simp only [List.sum_cons];omega
 have:=h2 (l.drop i) (fun x hx=>h x (List.mem_of_mem_drop hx))
 omega
theorem q3z {l:List Int}:(List.range l.length).all (fun i=>qfy l i && !ilt 8 (boxW (l.take (i+1))))=qad l:=by
 rw [Bool.eq_iff_iff];constructor
 ·intro h;have h1:=qzh h l.length (wae _);rw [wbl] at h1;refine qal.2 ⟨by omega,fun i hi=>?_,h1.2.2⟩
  have:=List.all_eq_true.1 h i (List.mem_range.2 hi);simp only [wbc] at this;exact this.1
 ·intro h;have h8:=qby h;obtain ⟨h1,h2,h3⟩:=qal.1 h;refine List.all_eq_true.2 fun i hi=>?_
  have hi:=List.mem_range.1 hi;have h4:=qwx (fun x hx=>by have:=h8 x hx;omega) (i+1)
  have h5:boxW (l.take (i+1))=(l.take (i+1)).sum:=qm6 (fun x hx=>by have:=h8 x (List.mem_of_mem_take hx);omega) (by simp;omega)
  simp only [h2 i hi,wb1,h5,Bool.not_eq_true'];exact qag.2 (by omega)
theorem zbg:qvj.goal Try.prog (spOf []) q7o [] lm30:=by
 have e:(∀ (l:List Int),small l→g22 l=some (qad l,()))=qvj.goal Try.prog (spOf []) q7o [] lm30:=by kernel_rfl
 rw [← e];intro l hl;unfold small at hl;unfold g22;refine qhf (fun i=>(boxW (l.take i),(i:Int),())) (fun i=>qfy l i && !ilt 8 (boxW (l.take (i+1)))) l.length (false,()) (true,()) _ ?_ ?_ ?_
 rotate_left
 ·simp [ilt]
 ·rw [q3z];cases qad l<;>rfl
 intro i hi;have h4:wr .i64 ((i:Int)+1)=((i+1:Nat):Int):=(qam (by omega)).trans (by omega)
 simp only [qak.2 (show (i:Int)<l.length by omega),wbs,wad,h4,← qkd hi]
 rw [qab ⟨by omega,by omega⟩]
 simp only [imp_self,qac]
 by_cases h1:l.getD i 0<1
 ·have:qfy l i=false:=by simp only [qfy,decide_eq_false (show ¬ 1≤l.getD i 0 by omega),wb3]
  rw [this];generalize l.getD i 0=v at h1;simp [qak.2 h1,qac]
 by_cases h2:8<l.getD i 0
 ·have:qfy l i=false:=by simp only [qfy,decide_eq_false (show ¬ l.getD i 0≤8 by omega),wb3,wb2]
  rw [this];generalize l.getD i 0=v at h1 h2;simp [qag.2 (show (1:Int)≤v by omega),qak.2 h2,qac]
 cases i with
 | zero =>
  have:qfy l 0=true:=qcc.2 ⟨by omega,Or.inl rfl⟩
  rw [this];have h3:ilt (0:Int) ((0:Nat):Int)=false:=by decide
  generalize l.getD 0 0=v at h1 h2;simp only [qag.2 (show (1:Int)≤v by omega),qag.2 (show v≤8 by omega),h3]
  generalize ilt 8 (boxW (l.take (0+1)))=q;cases q<;>simp [qac]
 | succ i =>
  have h3:ilt (0:Int) ((i+1:Nat):Int)=true:=qak.2 (by omega)
  have h5:wr .i64 (((i+1:Nat):Int)-1)=(i:Int):=(qam (by omega)).trans (by omega)
  simp only [qag.2 (show (1:Int)≤l.getD (i+1) 0 by omega),qag.2 (show l.getD (i+1) 0≤8 by omega),h3,h5,wad,qac,wbs,wbr,wbh,wbz,imp_self,true_and,wbp]
  rw [qab ⟨by omega,by omega⟩]
  by_cases h6:l.getD i 0<l.getD (i+1) 0
  ·have:qfy l (i+1)=false:=Bool.eq_false_iff.2 (fun h=>by have:=(qcc.1 h).2;simp only [wcc] at this;omega)
   rw [qfs (qak.2 h6),this];rfl
  ·have:qfy l (i+1)=true:=qcc.2 ⟨by omega,Or.inr (by simp only [wcc];omega)⟩
   rw [qf6 (qag.2 (by omega)),this]
   generalize ilt 8 (boxW (l.take (i+1+1)))=q;cases q<;>rfl
theorem ok22:qvj.Ok Try.prog:=Con.of_goal qb4 okN qvj zbg
theorem qqf {A:Type} [DecidableEq A] {a b:List A} {d:A} (h:a.length=b.length):(List.range a.length).all (fun i=>decide (a.getD i d=b.getD i d))=decide (a=b):=by
 rw [Bool.eq_iff_iff,wb9,decide_eq_true_iff];constructor
 ·intro hh;refine List.ext_getElem h fun i h1 h2=>?_
  have:=of_decide_eq_true (hh i (List.mem_range.2 h1));simpa [waa,wab h1,wab h2] using this
 ·rintro rfl i _;simp
theorem zb3:qzp.goal Try.prog (spOf []) q8k [] lm30:=by
 have e:(∀ (a b:List Int),small a→g51 a b=some (eqL1 a b,()))=qzp.goal Try.prog (spOf []) q8k [] lm30:=by kernel_rfl
 rw [← e];intro a b hs;unfold small at hs;unfold g51 eqL1
 by_cases hl:a.length=b.length
 ·rw [qcb.2 (by omega),wbi,wbr]
  refine qhf (fun i=>((i:Int),())) (fun i=>decide (a.getD i 0=b.getD i 0)) a.length (false,()) (true,()) _ ?_ ?_ ?_
  rotate_left
  ·simp [ilt]
  ·rw [qqf hl];cases decide (a=b)<;>rfl
  intro i hi;have h4:wr .i64 ((i:Int)+1)=((i+1:Nat):Int):=(qam (by omega)).trans (by omega)
  simp only [qak.2 (show (i:Int)<a.length by omega),wbs,wad,h4]
  rw [qab ⟨by omega,by omega⟩,qab ⟨by omega,by omega⟩]
  by_cases h:a.getD i 0=b.getD i 0
  ·rw [qcb.2 h,decide_eq_true h];rfl
  ·rw [qa5.2 h,decide_eq_false h];rfl
 ·rw [qa5.2 (by omega),decide_eq_false (fun h=>hl (by rw [h]))];rfl
theorem ok51:qzp.Ok Try.prog:=Con.of_goal qb4 okN qzp zb3
theorem qg8 {A:Type} {a:List A} {d:A} {i:Nat} (h:i<a.length):a.getD i d∈a:=by
 rw [waa,wab h];exact wav h
theorem zbo:q03.goal Try.prog (spOf [qzp]) q7c [] lm30:=by
 have e:(∀ (a b:List (List Int)),(small a∧∀ r∈a,small r)→g74 a b=some (eqL2 a b,()))=q03.goal Try.prog (spOf [qzp]) q7c [] lm30:=by kernel_rfl
 rw [← e];rintro a b ⟨hs,hm⟩;unfold small at hs;unfold g74 eqL2
 by_cases hl:a.length=b.length
 ·rw [qcb.2 (by omega),wbi,wbr]
  refine qhf (fun i=>((i:Int),())) (fun i=>decide (a.getD i []=b.getD i [])) a.length (false,()) (true,()) _ ?_ ?_ ?_
  rotate_left
  ·simp [ilt]
  ·rw [qqf hl];cases decide (a=b)<;>rfl
  intro i hi;have h4:wr .i64 ((i:Int)+1)=((i+1:Nat):Int):=(qam (by omega)).trans (by omega)
  simp only [qak.2 (show (i:Int)<a.length by omega),wbs,wad,h4]
  rw [qab ⟨by omega,by omega⟩,qab ⟨by omega,by omega⟩,qab (hm _ (qg8 hi))]
  unfold eqL1;cases decide (a.getD i []=b.getD i [])<;>rfl
 ·rw [qa5.2 (by omega),decide_eq_false (fun h=>hl (by rw [h]))];rfl
theorem ok74:q03.Ok Try.prog:=Con.of_goal qb4 (okC ok51 okN) q03 zbo
theorem zbz:qtk.goal Try.prog (spOf [q03]) q7d [] lm30:=by
 have e:(∀ (a b:List (List Int)),(small a∧∀ r∈a,small r)→g27 a b=some (eqL2 a b,()))=qtk.goal Try.prog (spOf [q03]) q7d [] lm30:=by kernel_rfl
 rw [← e];intro a b h;exact qab h
theorem ok27:qtk.Ok Try.prog:=Con.of_goal qb4 (okC ok74 okN) qtk zbz
theorem zbj:qzt.goal Try.prog (spOf [q0u,qtk]) q7i [] lm30:=by
 have e:(g24=some (true,()))=qzt.goal Try.prog (spOf [q0u,qtk]) q7i [] lm30:=by kernel_rfl
 rw [← e];have h:qct [1] [0,1]=([[[2]]],0,()):=by decide +kernel
 unfold g24;rw [h];simp [qac,ieq,small,eqL2];refine qab fun x hx=>?_
 have hx:x∈[[2]]:=hx;rw [List.mem_singleton.1 hx];simp
theorem ok24:qzt.Ok Try.prog:=Con.of_goal qb4 (okC ok19 (okC ok27 okN)) qzt zbj
theorem qdb {A:Type} {a:List A} {i k:Nat} {x d:A} (h:i<a.length):(a.set i x).getD k d=if k=i then x else a.getD k d:=by
 simp only [waa,wa5]
 by_cases hk:i=k
 ·subst hk;simp [h]
 ·rw [if_neg hk,if_neg (fun e=>hk e.symm)]
theorem qn1 {r:List Int}:r.getLastD 0=r.getD (r.length-1) 0:=by
 rw [wb4,List.getLast?_eq_getElem?,waa]
def pad (L:Nat) (rows:List (List Int)):List (List Int):=rows++List.replicate (L-rows.length) []
theorem qsj {L:Nat} {R:List (List Int)} {r:List Int} {k:Nat} (hk:k≤R.length):(pad L (R++[r])).getD k []=(R++[r]).getD k []:=by
 unfold pad;simp only [waa];rw [wag (by simp;omega)]
theorem q9c {L:Nat} {R:List (List Int)} {r r':List Int}:(pad L (R++[r])).set R.length r'=pad L (R++[r']):=by
 unfold pad;rw [List.set_append_left _ _ (by simp),qg7]
 simp
theorem q60 {L:Nat} {rows:List (List Int)} (h:rows.length<L):pad L (rows++[[]])=pad L rows:=by
 unfold pad;obtain ⟨k,hk⟩:∃ k,L-rows.length=k+1:=⟨L-rows.length-1,by omega⟩
 rw [hk,List.replicate_succ,waf,wbk,show L-(rows.length+1)=k by omega,way]
 rfl
end
end Go.Schur
