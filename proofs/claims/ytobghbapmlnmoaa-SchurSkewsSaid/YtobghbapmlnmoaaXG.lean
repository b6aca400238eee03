/- Standard fillings: contracts. -/
import Derived.Test.YtobghbapmlnmoaaXH
import Derived.Test.YtobghbapmlnmoaaAR
set_option linter.unusedVariables false
set_option linter.unusedSimpArgs false
namespace Go.Schur
open Go Go.Ab Go.Proofs
def ones (l:List Int):List Int:=List.replicate (min (max (boxW l) 0) 8).toNat 1
def qpx:Nat→Nat→Nat→List (List Nat)
 | 0,n,most=>if n=0 then [[]] else []
 | f+1,n,most=>if n=0 then [[]] else (upTo 1 (min n most)).flatMap fun x=>(qpx f (n-x) x).map (x::·)
def allP:List (List Nat):=(List.range 9).flatMap fun n=>qpx n n n
theorem qup:∀ {l:List Nat} {f n most:Nat},(∀ x∈l,1≤x)→Dec l→l.headD 0≤most→l.sum=n→n≤f→l∈qpx f n most
 | [],f,n,most,_,_,_,hs,hf=>by
  simp at hs;subst hs;cases f<;>simp [qpx]
 | a::l,f,n,most,h1,hd,hm,hs,hf=>by
  have ha:=h1 a (by simp)
  simp only [List.sum_cons] at hs
  cases f with
  | zero=>omega
  | succ f =>
   rw [qpx,if_neg (by omega),List.mem_flatMap]
   simp only [List.headD_cons] at hm;refine ⟨a,q6l.2 ⟨ha,by omega⟩,List.mem_map.2 ⟨l,?_,rfl⟩⟩
   refine qup (fun x hx=>h1 x (by simp [hx])) (fun i=>by have:=hd (i+1);simpa using this) ?_ (by omega) (by omega)
   have:=hd 0
   cases l with
   | nil=>simp
   | cons b l=>simpa using this
theorem q27 {l:List Int} (h:∀ x∈l,0≤x):toI (l.map Int.toNat)=l:=by
 unfold toI;rw [List.map_map];refine Eq.trans (List.map_congr_left fun x hx=>?_) (List.map_id l)
 have:=h x hx;simp;omega
theorem quj {l:List Nat}:(toI l).map Int.toNat=l:=by
 unfold toI;rw [List.map_map];exact Eq.trans (List.map_congr_left fun x hx=>by simp) (List.map_id l)
theorem qef {l:List Int} (h:qad l=true):∃ p∈allP,l=toI p∧Small8 p∧(∀ x∈p,1≤x)∧p.sum≤8:=by
 have h8:=qby h;have hl:=qal.1 h;have e:=q27 (l:=l) (fun x hx=>by have:=h8 x hx;omega)
 have hrow:=qaz h;have hget:∀ i,((l.map Int.toNat).getD i 0:Int)=l.getD i 0:=fun i=>by rw [← qhz,e]
 have hsum:((l.map Int.toNat).sum:Int)=l.sum:=qrz (fun x hx=>by have:=h8 x hx;omega)
 have hd:Dec (l.map Int.toNat):=fun i=>by
  have:=(hrow i).2.2;rw [qba,qba,← hget,← hget] at this;omega
 have hp:∀ x∈l.map Int.toNat,1≤x:=fun x hx=>by
  obtain ⟨y,hy,rfl⟩:=List.mem_map.1 hx;have:=h8 y hy;omega
 have hs8:(l.map Int.toNat).sum≤8:=by have:=hl.2.2;omega
 refine ⟨l.map Int.toNat,?_,e.symm,⟨hd,by simpa using hl.1,fun i=>?_⟩,hp,hs8⟩
 ·refine List.mem_flatMap.2 ⟨(l.map Int.toNat).sum,List.mem_range.2 (by omega),qup hp hd ?_ rfl (wae _)⟩
  cases hl:l.map Int.toNat with
  | nil=>simp
  | cons a t=>simp
 ·have:=(hrow i).2.1;rw [qba,← hget] at this;omega
theorem q0e {l:List Nat}:∀ n∈l,n≤l.sum:=by
 induction l with
 | nil=>intro n hn;cases hn
 | cons a l ih =>
  intro n hn
  rcases List.mem_cons.1 hn with rfl | hn
  ·simp
  ·have:=ih n hn;simp only [List.sum_cons];omega
theorem qju {p:List Nat}:(toI p).sum=(p.sum:Nat):=by
 induction p with
 | nil=>rfl
 | cons a p ih=>simp only [toI,wbv,List.sum_cons] at ih ⊢;omega
theorem ql5 {p:List Nat} (hl:p.length≤8) (h:p.sum≤8):boxW (toI p)=(p.sum:Nat):=by
 rw [qm6 (fun x hx=>by obtain ⟨n,hn,rfl⟩:=List.mem_map.1 hx;have:=q0e n hn;omega) (by simp [toI];omega),qju]
instance {l:List Int}:Decidable (small l):=by unfold small;infer_instance
end Go.Schur
