/- Standard fillings: contracts. -/
import Derived.Test.YtobghbapmlnmoaaXH
import Derived.Test.YtobghbapmlnmoaaAR
set_option linter.unusedVariables false
set_option linter.unusedSimpArgs false
namespace Go.Schur
open Go Go.Ab Go.Proofs
def ones (l:List Int) : List Int:=List.replicate (min (max (boxW l) 0) 8).toNat 1
end Go.Schur
namespace Go.Schur
open Go Go.Ab Go.Proofs
def parts : Nat → Nat → Nat → List (List Nat)
 | 0,n,most=>if n = 0 then [[]] else []
 | f + 1,n,most=>if n = 0 then [[]] else (upTo 1 (min n most)).flatMap fun x=>(parts f (n - x) x).map (x :: ·)
def allP : List (List Nat):=(List.range 9).flatMap fun n=>parts n n n
theorem mem_parts : ∀ {l : List Nat} {f n most : Nat},(∀ x ∈ l,1 ≤ x) → Dec l → l.headD 0 ≤ most → l.sum = n → n ≤ f → l ∈ parts f n most
 | [],f,n,most,_,_,_,hs,hf=>by
  simp at hs;subst hs
  cases f <;> simp [parts]
 | a :: l,f,n,most,h1,hd,hm,hs,hf=>by
  have ha:=h1 a (by simp)
  simp only [List.sum_cons] at hs
  cases f with
  | zero=>omega
  | succ f =>
   rw [parts,if_neg (by omega),List.mem_flatMap]
   simp only [List.headD_cons] at hm
   refine ⟨a,mem_upTo.2 ⟨ha,by omega⟩,List.mem_map.2 ⟨l,?_,rfl⟩⟩
   refine mem_parts (fun x hx=>h1 x (by simp [hx])) (fun i=>by have:=hd (i + 1);simpa using this) ?_ (by omega) (by omega)
   have:=hd 0
   cases l with
   | nil=>simp
   | cons b l=>simpa using this
theorem toI_toNat {l : List Int} (h : ∀ x ∈ l,0 ≤ x) : toI (l.map Int.toNat) = l:=by
 unfold toI
 rw [List.map_map]
 refine Eq.trans (List.map_congr_left fun x hx=>?_) (List.map_id l)
 have:=h x hx
 simp;omega
theorem shape_allP {l : List Int} (h : shapeB l = true) : ∃ p ∈ allP,l = toI p ∧ Small8 p ∧ (∀ x ∈ p,1 ≤ x) ∧ p.sum ≤ 8:=by
 have h8:=shape_mem h
 have hl:=shapeB_iff.1 h
 have e:=toI_toNat (l:=l) (fun x hx=>by have:=h8 x hx;omega)
 have hrow:=shape_row h
 have hget : ∀ i,((l.map Int.toNat).getD i 0:Int) = l.getD i 0:=fun i=>by rw [← toI_get,e]
 have hsum : ((l.map Int.toNat).sum:Int) = l.sum:=sumN_eq (fun x hx=>by have:=h8 x hx;omega)
 have hd : Dec (l.map Int.toNat):=fun i=>by
  have:=(hrow i).2.2
  rw [rowF_nat,rowF_nat,← hget,← hget] at this
  omega
 have hp : ∀ x ∈ l.map Int.toNat,1 ≤ x:=fun x hx=>by
  obtain ⟨y,hy,rfl⟩:=List.mem_map.1 hx
  have:=h8 y hy;omega
 have hs8 : (l.map Int.toNat).sum ≤ 8:=by have:=hl.2.2;omega
 refine ⟨l.map Int.toNat,?_,e.symm,⟨hd,by simpa using hl.1,fun i=>?_⟩,hp,hs8⟩
 ·refine List.mem_flatMap.2 ⟨(l.map Int.toNat).sum,List.mem_range.2 (by omega),mem_parts hp hd ?_ rfl (Nat.le_refl _)⟩
  cases hl : l.map Int.toNat with
  | nil=>simp
  | cons a t=>simp
 ·have:=(hrow i).2.1
  rw [rowF_nat,← hget] at this
  omega
theorem toI_sum {p : List Nat} : (toI p).sum = (p.sum:Nat):=by
 induction p with
 | nil=>rfl
 | cons a p ih=>simp only [toI,List.map_cons,List.sum_cons] at ih ⊢;omega
end Go.Schur
namespace Go.Schur
open Go Go.Ab Go.Proofs
instance {l : List Int} : Decidable (small l):=by unfold small;infer_instance
end Go.Schur
namespace Go.Schur
open Go Go.Ab Go.Proofs
end Go.Schur
