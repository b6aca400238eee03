/- Blocking: contracts that read a slice which is written to elsewhere,and the law's. -/
import Derived.Test.YtffapeomfjfedaaXF
import Derived.Test.YtffapeomfjfedaaAT
set_option linter.unusedVariables false
set_option linter.unusedSimpArgs false
namespace Go.Arcs
open Go Go.Ab Go.Proofs
abbrev AI : TB:=.arr I64 true
end Go.Arcs
namespace Go.Arcs
open Go Go.Ab Go.Proofs
end Go.Arcs
namespace Go.Arcs
open Go Go.Ab Go.Proofs
def sumN (f : Nat → Int) : Nat → Int
 | 0=>0
 | n + 1=>sumN f n + f n
def ind (b:Bool) : Int:=if b = true then 1 else 0
theorem sumN_congr {f g : Nat → Int} : ∀ {n : Nat},(∀ i,i < n → f i = g i) → sumN f n = sumN g n
 | 0,_=>rfl
 | n + 1,h=>by rw [sumN,sumN,sumN_congr fun i hi=>h i (by omega),h n (by omega)]
theorem sumN_count {q : Nat → Bool} : ∀ {n : Nat},sumN (fun i=>ind (q i)) n = ((List.range n).countP q:Int)
 | 0=>rfl
 | n + 1=>by
  rw [sumN,sumN_count,List.range_succ,List.countP_append,List.countP_singleton]
  cases q n <;> simp [ind]
def mask : List Bool → Nat
 | []=>0
 | b :: l=>(if b = true then 1 else 0) + 2 * mask l
theorem mask_bit : ∀ {l : List Bool} {j : Nat},(mask l).testBit j = l.getD j false
 | [],j=>by simp [mask]
 | b :: l,0=>by cases b <;> simp [mask,Nat.testBit_zero] <;> omega
 | b :: l,j + 1=>by
  rw [Nat.testBit_succ]
  have : mask (b :: l) / 2 = mask l:=by cases b <;> simp [mask] <;> omega
  rw [this,mask_bit];rfl
def pc : Nat → Nat → Nat
 | 0,_=>0
 | k + 1,x=>x % 2 + pc k (x / 2)
theorem pc_eq : ∀ (k x:Nat),(List.range k).countP (fun j=>x.testBit j) = pc k x
 | 0,_=>rfl
 | k + 1,x=>by
  rw [List.range_succ_eq_map,List.countP_cons,List.countP_map,pc,← pc_eq k (x / 2),Nat.add_comm]
  congr 1
  ·rw [Nat.testBit_zero]
   rcases Nat.mod_two_eq_zero_or_one x with h | h <;> rw [h] <;> rfl
  ·congr 1
   funext j
   show x.testBit (j + 1) = _
   rw [Nat.testBit_succ]
def frcB (n:Nat) (f : Nat → Bool) : Bool:=Nat.rec (f 0) (fun m _=>f (m + 1)) n
theorem frcB_eq {n : Nat} {f : Nat → Bool} : frcB n f = f n:=by cases n <;> rfl
def pairsOk (k:Nat) : List (List Bool) → List Nat → Bool
 | [],_=>true
 | r :: rs,acc=>frcB (mask r) fun m=>acc.all (fun m'=>Nat.beq (pc k (m &&& m')) 1) && pairsOk k rs (m :: acc)
theorem pairsOk_spec {k : Nat} : ∀ {rs : List (List Bool)} {acc : List Nat},pairsOk k rs acc = true → (∀ i,∀ m ∈ acc,i < rs.length → pc k (mask (rs.getD i []) &&& m) = 1) ∧ ∀ i j,j < i → i < rs.length → pc k (mask (rs.getD i []) &&& mask (rs.getD j [])) = 1
 | [],_,_=>⟨fun i m _ h=>by simp at h,fun i j _ h=>by simp at h⟩
 | r :: rs,acc,h=>by
  rw [pairsOk,frcB_eq,Bool.and_eq_true,List.all_eq_true] at h
  obtain ⟨h1,h2⟩:=h
  obtain ⟨k1,k2⟩:=pairsOk_spec h2
  constructor
  ·intro i m hm hi
   cases i with
   | zero=>exact Nat.eq_of_beq_eq_true (h1 m hm)
   | succ i=>exact k1 i m (List.mem_cons_of_mem _ hm) (by simpa using hi)
  ·intro i j hj hi
   cases i with
   | zero=>omega
   | succ i =>
    cases j with
    | zero=>exact k1 i _ (List.mem_cons_self ..) (by simpa using hi)
    | succ j=>exact k2 i j (by omega) (by simpa using hi)
theorem pairs_all : ∀ p ∈ ([2,3,5,7]:List Int),pairsOk (ptsC p).length (tabF p) [] = true:=by decide +kernel
section
variable {p : Int}
theorem tab_len' : (tabF p).length = (ptsC p).length:=by simp [tabF]
theorem tab_rowN {x b : Nat} (hp : isP p) (hx : x < (ptsC p).length) (hb : b < (ptsC p).length) : ((tabF p).getD x []).getD b false = onF p x b:=by
 have:=tat_on (p:=p) (x:=x) (b:=b) hp (inPt_nat hp hx) (inPt_nat hp hb)
 rw [← this]
 unfold tAt
 rw [Int.toNat_natCast,Int.toNat_natCast]
theorem through_two (hp : isP p) {x y : Nat} (hx : x < (ptsC p).length) (hy : y < (ptsC p).length) (hne : x ≠ y) : sumN (fun b=>ind (onF p x b) * ind (onF p y b)) (ptsC p).length = 1:=by
 have key : ∀ x y : Nat,y < x → x < (ptsC p).length → sumN (fun b=>ind (onF p x b) * ind (onF p y b)) (ptsC p).length = 1:=fun x y hyx hx=>by
  have h:=(pairsOk_spec (pairs_all p (isP_mem hp))).2 x y hyx (by rw [tab_len'];exact hx)
  rw [← pc_eq] at h
  have e : sumN (fun b=>ind (onF p x b) * ind (onF p y b)) (ptsC p).length = sumN (fun b=>ind ((mask ((tabF p).getD x []) &&& mask ((tabF p).getD y [])).testBit b)) (ptsC p).length:=sumN_congr fun b hb=>by
   rw [Nat.testBit_and,mask_bit,mask_bit,tab_rowN hp hx hb,tab_rowN hp (by omega) hb]
   cases onF p x b <;> cases onF p y b <;> rfl
  rw [e,sumN_count,h];rfl
 rcases Nat.lt_or_ge y x with h | h
 ·exact key x y h hx
 ·rw [← key y x (by omega) hy]
  exact sumN_congr fun b _=>Int.mul_comm _ _
variable {l : List Int}
theorem flt_ris {q : Nat → Bool} : ∀ {n : Nat},ris (flt q n) = true ∧ ∀ x ∈ flt q n,x < n
 | 0=>⟨rfl,fun x hx=>by simp [flt] at hx⟩
 | n + 1=>by
  obtain ⟨h1,h2⟩:=flt_ris (q:=q) (n:=n)
  rw [flt_succ]
  by_cases hq : q n = true
  ·rw [if_pos hq]
   constructor
   ·rw [ris_iff] at h1 ⊢
    intro i hi
    rw [List.length_append,List.length_singleton] at hi
    by_cases h3 : i + 1 < (flt q n).length
    ·rw [gd_at (by rw [List.length_append];omega),gd_at (by rw [List.length_append];omega),List.getElem_append_left (by omega),List.getElem_append_left h3]
     have:=h1 i h3
     rwa [gd_at (by omega),gd_at h3] at this
    ·have h4 : i + 1 = (flt q n).length:=by omega
     rw [gd_at (by rw [List.length_append];omega),gd_at (by rw [List.length_append,List.length_singleton];omega),List.getElem_append_left (by omega),List.getElem_append_right (by omega)]
     have:=h2 _ (List.getElem_mem (l:=flt q n) (n:=i) (by omega))
     simpa [h4] using this
   ·intro x hx
    rcases List.mem_append.1 hx with h | h
    ·have:=h2 x h;omega
    ·simp at h;omega
  ·rw [if_neg hq,List.append_nil]
   exact ⟨h1,fun x hx=>by have:=h2 x hx;omega⟩
end
end Go.Arcs
namespace Go.Arcs
open Go Go.Ab Go.Proofs
section
variable {p : Int} {l : List Int}
end
end Go.Arcs
