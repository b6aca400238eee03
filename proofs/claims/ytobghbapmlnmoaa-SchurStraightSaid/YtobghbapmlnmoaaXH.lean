/- Fillings: which ones are made,and that none is made twice. -/
import Derived.Test.YtobghbapmlnmoaaXD
set_option linter.unusedVariables false
set_option linter.unusedSimpArgs false
namespace Go.Schur
open Go Go.Ab Go.Proofs
def Ord (inner:List Int) (T:List (List Int)) : Prop:=∀ i j : Nat,i < T.length → j < (T.getD i []).length →
 (0 < j → (T.getD i []).getD (j - 1) 0 ≤ (T.getD i []).getD j 0) ∧ (0 < i → atF inner T ((i:Int) - 1) (rowF inner i + j) < (T.getD i []).getD j 0)
structure Tab (inner outer:List Int) (most:Int) (T:List (List Int)) : Prop where
 len : T.length = outer.length
 row : ∀ i : Nat,i < T.length → rowF inner i + ((T.getD i []).length:Int) = rowF outer i
 ent : ∀ r ∈ T,∀ x ∈ r,1 ≤ x ∧ x ≤ most
 ord : Ord inner T
inductive Pre : List (List Int) → List (List Int) → Prop
 | nil (T:List (List Int)) : Pre [] T
 | app (R:List (List Int)) (r s:List Int) (U:List (List Int)) : Pre (R ++ [r]) (R ++ (r ++ s) :: U)
structure Sums (inner outer left:List Int) (most:Int) (rows:List (List Int)) (N:Nat) : Prop where
 tot : ∀ T,Tab inner outer most T → T.flatten.length = N
 sum : sumN left + rows.flatten.length = N
end Go.Schur
namespace Go.Schur
open Go Go.Ab Go.Proofs
def upTo (lo hi:Nat) : List Nat:=(List.range (hi + 1 - lo)).map (lo + ·)
theorem mem_upTo {lo hi v : Nat} : v ∈ upTo lo hi ↔ lo ≤ v ∧ v ≤ hi:=by
 unfold upTo
 rw [List.mem_map]
 constructor
 ·rintro ⟨x,hx,rfl⟩;have:=List.mem_range.1 hx;omega
 ·rintro ⟨h1,h2⟩;exact ⟨v - lo,List.mem_range.2 (by omega),by omega⟩
end Go.Schur
namespace Go.Schur
open Go Go.Ab Go.Proofs
def Dec (l : List Nat) : Prop:=∀ i,l.getD (i + 1) 0 ≤ l.getD i 0
def toI (l : List Nat) : List Int:=l.map fun (n:Nat)=>(n:Int)
theorem toI_get {l : List Nat} {i : Nat} : (toI l).getD i 0 = (l.getD i 0:Nat):=by
 unfold toI
 rw [List.getD_eq_getElem?_getD,List.getElem?_map,List.getD_eq_getElem?_getD]
 cases l[i]? <;> rfl
structure Small8 (l : List Nat) : Prop where
 dec : Dec l
 len : l.length ≤ 8
 le8 : ∀ i,l.getD i 0 ≤ 8
end Go.Schur
