/- Fillings: contracts of the reference and of the law. -/
import Derived.Test.YtobghbapmlnmoaaXB
set_option linter.unusedVariables false
set_option linter.unusedSimpArgs false
namespace Go.Schur
open Go Go.Ab Go.Proofs
noncomputable def con22 : Con:=mkC 22 [.d LI] [.bool] (fun (l:List Int)=>[small l]) (fun (l:List Int)=>(shapeB l,()))
noncomputable def g22 (x0:List Int) : Option (Bool × Unit):=whileO (fun (d1 : Int × Int × Unit)=>bif ilt d1.2.1 (↑(List.length x0):Int) then gd (0 ≤ d1.2.1 ∧ d1.2.1 < (↑(List.length x0):Int)) (gd ((!ilt (List.getD x0 (Int.toNat d1.2.1) 0) 1) = true → (!ilt (List.getD x0 (Int.toNat d1.2.1) 0) 1) = true) (gd (ilt (List.getD x0 (Int.toNat d1.2.1) 0) 1 = false → (!ilt (List.getD x0 (Int.toNat d1.2.1) 0) 1) = true) (gd ((!bif ilt (List.getD x0 (Int.toNat d1.2.1) 0) 1 then true else ilt 8 (List.getD x0 (Int.toNat d1.2.1) 0)) = true → (!bif ilt (List.getD x0 (Int.toNat d1.2.1) 0) 1 then true else ilt 8 (List.getD x0 (Int.toNat d1.2.1) 0)) = true) (gd (((!bif ilt (List.getD x0 (Int.toNat d1.2.1) 0) 1 then true else ilt 8 (List.getD x0 (Int.toNat d1.2.1) 0)) && ((!bif ilt (List.getD x0 (Int.toNat d1.2.1) 0) 1 then true else ilt 8 (List.getD x0 (Int.toNat d1.2.1) 0)) && ilt 0 d1.2.1)) = true → ((!bif ilt (List.getD x0 (Int.toNat d1.2.1) 0) 1 then true else ilt 8 (List.getD x0 (Int.toNat d1.2.1) 0)) && ((!bif ilt (List.getD x0 (Int.toNat d1.2.1) 0) 1 then true else ilt 8 (List.getD x0 (Int.toNat d1.2.1) 0)) && ilt 0 d1.2.1)) = true) (gd (((!bif ilt (List.getD x0 (Int.toNat d1.2.1) 0) 1 then true else ilt 8 (List.getD x0 (Int.toNat d1.2.1) 0)) && ((!bif ilt (List.getD x0 (Int.toNat d1.2.1) 0) 1 then true else ilt 8 (List.getD x0 (Int.toNat d1.2.1) 0)) && ilt 0 d1.2.1)) = true → ((!bif ilt (List.getD x0 (Int.toNat d1.2.1) 0) 1 then true else ilt 8 (List.getD x0 (Int.toNat d1.2.1) 0)) && ((!bif ilt (List.getD x0 (Int.toNat d1.2.1) 0) 1 then true else ilt 8 (List.getD x0 (Int.toNat d1.2.1) 0)) && ilt 0 d1.2.1)) = true ∧ ((!bif ilt (List.getD x0 (Int.toNat d1.2.1) 0) 1 then true else ilt 8 (List.getD x0 (Int.toNat d1.2.1) 0)) && ((!bif ilt (List.getD x0 (Int.toNat d1.2.1) 0) 1 then true else ilt 8 (List.getD x0 (Int.toNat d1.2.1) 0)) && ilt 0 d1.2.1)) = true ∧ 0 ≤ wr .i64 (d1.2.1 - 1) ∧ wr .i64 (d1.2.1 - 1) < (↑(List.length x0):Int)) (gd (((!bif ilt (List.getD x0 (Int.toNat d1.2.1) 0) 1 then true else ilt 8 (List.getD x0 (Int.toNat d1.2.1) 0)) && ((!bif ilt (List.getD x0 (Int.toNat d1.2.1) 0) 1 then true else ilt 8 (List.getD x0 (Int.toNat d1.2.1) 0)) && ilt 0 d1.2.1)) = true → ((!bif ilt (List.getD x0 (Int.toNat d1.2.1) 0) 1 then true else ilt 8 (List.getD x0 (Int.toNat d1.2.1) 0)) && ((!bif ilt (List.getD x0 (Int.toNat d1.2.1) 0) 1 then true else ilt 8 (List.getD x0 (Int.toNat d1.2.1) 0)) && ilt 0 d1.2.1)) = true) (gd (((!bif ilt (List.getD x0 (Int.toNat d1.2.1) 0) 1 then true else ilt 8 (List.getD x0 (Int.toNat d1.2.1) 0)) && ((!bif ilt (List.getD x0 (Int.toNat d1.2.1) 0) 1 then true else ilt 8 (List.getD x0 (Int.toNat d1.2.1) 0)) && ilt 0 d1.2.1)) = true → ((!bif ilt (List.getD x0 (Int.toNat d1.2.1) 0) 1 then true else ilt 8 (List.getD x0 (Int.toNat d1.2.1) 0)) && ((!bif ilt (List.getD x0 (Int.toNat d1.2.1) 0) 1 then true else ilt 8 (List.getD x0 (Int.toNat d1.2.1) 0)) && ilt 0 d1.2.1)) = true ∧ ((!bif ilt (List.getD x0 (Int.toNat d1.2.1) 0) 1 then true else ilt 8 (List.getD x0 (Int.toNat d1.2.1) 0)) && ((!bif ilt (List.getD x0 (Int.toNat d1.2.1) 0) 1 then true else ilt 8 (List.getD x0 (Int.toNat d1.2.1) 0)) && ilt 0 d1.2.1)) = true) (gd ((!bif ilt (List.getD x0 (Int.toNat d1.2.1) 0) 1 then true else ilt 8 (List.getD x0 (Int.toNat d1.2.1) 0)) = true → (!bif ilt (List.getD x0 (Int.toNat d1.2.1) 0) 1 then true else ilt 8 (List.getD x0 (Int.toNat d1.2.1) 0)) = true ∧ (!bif ilt (List.getD x0 (Int.toNat d1.2.1) 0) 1 then true else ilt 8 (List.getD x0 (Int.toNat d1.2.1) 0)) = true ∧ (ilt 0 d1.2.1 = true → ((!bif ilt (List.getD x0 (Int.toNat d1.2.1) 0) 1 then true else ilt 8 (List.getD x0 (Int.toNat d1.2.1) 0)) && ((!bif ilt (List.getD x0 (Int.toNat d1.2.1) 0) 1 then true else ilt 8 (List.getD x0 (Int.toNat d1.2.1) 0)) && ilt 0 d1.2.1)) = true)) (gd ((bif ilt (List.getD x0 (Int.toNat d1.2.1) 0) 1 then true else ilt 8 (List.getD x0 (Int.toNat d1.2.1) 0)) = false → (!bif ilt (List.getD x0 (Int.toNat d1.2.1) 0) 1 then true else ilt 8 (List.getD x0 (Int.toNat d1.2.1) 0)) = true) (bif bif bif ilt (List.getD x0 (Int.toNat d1.2.1) 0) 1 then true else ilt 8 (List.getD x0 (Int.toNat d1.2.1) 0) then true else bif ilt 0 d1.2.1 then ilt (List.getD x0 (Int.toNat (wr .i64 (d1.2.1 - 1))) 0) (List.getD x0 (Int.toNat d1.2.1) 0) else false then some (Lp.out ((false,()) : Bool × Unit)) else bif ilt 8 (wr .i64 (d1.1 + List.getD x0 (Int.toNat d1.2.1) 0)) then some (Lp.out ((false,()) : Bool × Unit)) else some (Lp.go ((wr .i64 (d1.1 + List.getD x0 (Int.toNat d1.2.1) 0),wr .i64 (d1.2.1 + 1),()) : Int × Int × Unit)))))))))))) else some (Lp.out ((true,()) : Bool × Unit))) ((0,0,()) : Int × Int × Unit)
noncomputable def g22_sh : List LSh:=LSh.mk (((3,TV.v (Ty.int IntKind.i64)) : Nat × TV) :: ((8,TV.v (Ty.int IntKind.i64)) : Nat × TV) :: ([] : List (Nat × TV))) ([] : List TB) :: ([] : List LSh)
def eqL1 (a b:List Int) : Bool:=decide (a = b)
def eqL2 (a b:List (List Int)) : Bool:=decide (a = b)
noncomputable def con51 : Con:=mkC 51 [.d LI,.d LI] [.bool] (fun (a b:List Int)=>[small a]) (fun (a b:List Int)=>(eqL1 a b,()))
noncomputable def g51 (x0 x1:List Int) : Option (Bool × Unit):=bif !ieq (↑(List.length x0):Int) (↑(List.length x1):Int) then some ((false,()) : Bool × Unit) else whileO (fun (d2 : Int × Unit)=>bif ilt d2.1 (↑(List.length x0):Int) then gd (0 ≤ d2.1 ∧ d2.1 < (↑(List.length x0):Int)) (gd (0 ≤ d2.1 ∧ d2.1 < (↑(List.length x1):Int)) (bif !ieq (List.getD x0 (Int.toNat d2.1) 0) (List.getD x1 (Int.toNat d2.1) 0) then some (Lp.out ((false,()) : Bool × Unit)) else some (Lp.go ((wr .i64 (d2.1 + 1),()) : Int × Unit)))) else some (Lp.out ((true,()) : Bool × Unit))) ((0,()) : Int × Unit)
noncomputable def g51_sh : List LSh:=LSh.mk (((13,TV.v (Ty.int IntKind.i64)) : Nat × TV) :: ([] : List (Nat × TV))) ([] : List TB) :: ([] : List LSh)
noncomputable def con74 : Con:=mkC 74 [.d LLI,.d LLI,.fn 51 []] [.bool] (fun (a b:List (List Int))=>[small a ∧ ∀ r ∈ a,small r]) (fun (a b:List (List Int))=>(eqL2 a b,()))
noncomputable def g74 (x0 x1:List (List Int)) : Option (Bool × Unit):=bif !ieq (↑(List.length x0):Int) (↑(List.length x1):Int) then some ((false,()) : Bool × Unit) else whileO (fun (d2 : Int × Unit)=>bif ilt d2.1 (↑(List.length x0):Int) then gd (0 ≤ d2.1 ∧ d2.1 < (↑(List.length x0):Int)) (gd (0 ≤ d2.1 ∧ d2.1 < (↑(List.length x1):Int)) (gd (small (List.getD x0 (Int.toNat d2.1) ([]:List Int))) (bif !eqL1 (List.getD x0 (Int.toNat d2.1) ([]:List Int)) (List.getD x1 (Int.toNat d2.1) ([]:List Int)) then some (Lp.out ((false,()) : Bool × Unit)) else some (Lp.go ((wr .i64 (d2.1 + 1),()) : Int × Unit))))) else some (Lp.out ((true,()) : Bool × Unit))) ((0,()) : Int × Unit)
noncomputable def g74_sh : List LSh:=LSh.mk (((2,TV.fn (51) TV.nil) : Nat × TV) :: ((17,TV.v (Ty.int IntKind.i64)) : Nat × TV) :: ([] : List (Nat × TV))) ([] : List TB) :: ([] : List LSh)
noncomputable def con27 : Con:=mkC 27 [.d LLI,.d LLI] [.bool] (fun (a b:List (List Int))=>[small a ∧ ∀ r ∈ a,small r]) (fun (a b:List (List Int))=>(eqL2 a b,()))
noncomputable def g27 (x0 x1:List (List Int)) : Option (Bool × Unit):=gd (small x0 ∧ ∀ (x2:List Int),List.Mem x2 x0 → small x2) (some ((eqL2 x0 x1,()) : Bool × Unit))
noncomputable def g27_sh : List LSh:=([] : List LSh)
noncomputable def con24 : Con:=mkC 24 [] [.bool] [] (true,())
noncomputable def g24  : Option (Bool × Unit):=gd ((1:Nat) ≤ 1000 ∧ (2:Nat) ≤ 1000) (gd (ieq (fillF (1 :: ([]:List Int)) (0 :: 1 :: ([]:List Int))).2.1 0 = true → ieq (fillF (1 :: ([]:List Int)) (0 :: 1 :: ([]:List Int))).2.1 0 = true) (gd (ieq (fillF (1 :: ([]:List Int)) (0 :: 1 :: ([]:List Int))).2.1 0 = true → ieq (fillF (1 :: ([]:List Int)) (0 :: 1 :: ([]:List Int))).2.1 0 = true) (gd (ieq (fillF (1 :: ([]:List Int)) (0 :: 1 :: ([]:List Int))).2.1 0 = true → ieq (fillF (1 :: ([]:List Int)) (0 :: 1 :: ([]:List Int))).2.1 0 = true) (gd ((bif ieq (fillF (1 :: ([]:List Int)) (0 :: 1 :: ([]:List Int))).2.1 0 then ieq (↑(List.length (fillF (1 :: ([]:List Int)) (0 :: 1 :: ([]:List Int))).1):Int) 1 else false) = true → (bif ieq (fillF (1 :: ([]:List Int)) (0 :: 1 :: ([]:List Int))).2.1 0 then ieq (↑(List.length (fillF (1 :: ([]:List Int)) (0 :: 1 :: ([]:List Int))).1):Int) 1 else false) = true ∧ (0:Int) ≤ 0 ∧ 0 < (↑(List.length (fillF (1 :: ([]:List Int)) (0 :: 1 :: ([]:List Int))).1):Int)) (gd ((bif ieq (fillF (1 :: ([]:List Int)) (0 :: 1 :: ([]:List Int))).2.1 0 then ieq (↑(List.length (fillF (1 :: ([]:List Int)) (0 :: 1 :: ([]:List Int))).1):Int) 1 else false) = true → (bif ieq (fillF (1 :: ([]:List Int)) (0 :: 1 :: ([]:List Int))).2.1 0 then ieq (↑(List.length (fillF (1 :: ([]:List Int)) (0 :: 1 :: ([]:List Int))).1):Int) 1 else false) = true) (gd ((bif ieq (fillF (1 :: ([]:List Int)) (0 :: 1 :: ([]:List Int))).2.1 0 then ieq (↑(List.length (fillF (1 :: ([]:List Int)) (0 :: 1 :: ([]:List Int))).1):Int) 1 else false) = true → (bif ieq (fillF (1 :: ([]:List Int)) (0 :: 1 :: ([]:List Int))).2.1 0 then ieq (↑(List.length (fillF (1 :: ([]:List Int)) (0 :: 1 :: ([]:List Int))).1):Int) 1 else false) = true) (gd ((bif ieq (fillF (1 :: ([]:List Int)) (0 :: 1 :: ([]:List Int))).2.1 0 then ieq (↑(List.length (fillF (1 :: ([]:List Int)) (0 :: 1 :: ([]:List Int))).1):Int) 1 else false) = true → (bif ieq (fillF (1 :: ([]:List Int)) (0 :: 1 :: ([]:List Int))).2.1 0 then ieq (↑(List.length (fillF (1 :: ([]:List Int)) (0 :: 1 :: ([]:List Int))).1):Int) 1 else false) = true ∧ (bif ieq (fillF (1 :: ([]:List Int)) (0 :: 1 :: ([]:List Int))).2.1 0 then ieq (↑(List.length (fillF (1 :: ([]:List Int)) (0 :: 1 :: ([]:List Int))).1):Int) 1 else false) = true ∧ small (List.getD (fillF (1 :: ([]:List Int)) (0 :: 1 :: ([]:List Int))).1 0 ([]:List (List Int))) ∧ ∀ (x0:List Int),List.Mem x0 (List.getD (fillF (1 :: ([]:List Int)) (0 :: 1 :: ([]:List Int))).1 0 ([]:List (List Int))) → small x0) (gd ((bif ieq (fillF (1 :: ([]:List Int)) (0 :: 1 :: ([]:List Int))).2.1 0 then ieq (↑(List.length (fillF (1 :: ([]:List Int)) (0 :: 1 :: ([]:List Int))).1):Int) 1 else false) = true → (bif ieq (fillF (1 :: ([]:List Int)) (0 :: 1 :: ([]:List Int))).2.1 0 then ieq (↑(List.length (fillF (1 :: ([]:List Int)) (0 :: 1 :: ([]:List Int))).1):Int) 1 else false) = true) (some ((bif bif ieq (fillF (1 :: ([]:List Int)) (0 :: 1 :: ([]:List Int))).2.1 0 then ieq (↑(List.length (fillF (1 :: ([]:List Int)) (0 :: 1 :: ([]:List Int))).1):Int) 1 else false then eqL2 (List.getD (fillF (1 :: ([]:List Int)) (0 :: 1 :: ([]:List Int))).1 0 ([]:List (List Int))) ((2 :: ([]:List Int)) :: ([]:List (List Int))) else false,()) : Bool × Unit))))))))))
noncomputable def g24_sh : List LSh:=([] : List LSh)
structure preR (n:Nat) (l left:List Int) (rows:List (List Int)) (i:Int) : Prop where
 ll : l.length ≤ 8
 l8 : ∀ k : Nat,l.getD k 0 ≤ 8
 ld : ∀ k : Nat,l.getD (k + 1) 0 ≤ l.getD k 0
 len : rows.length = l.length
 i0 : 0 ≤ i ∧ i ≤ l.length
 fl : ∀ k : Nat,(k:Int) < i → ((rows.getD k []).length:Int) = l.getD k 0
 la : ∀ k : Nat,((rows.getD k []).length:Int) ≤ l.getD k 0
 lf : left.length ≤ 8 ∧ ∀ x ∈ left,0 ≤ x ∧ x ≤ 8
 mu : 9 * (l.length - i.toNat) + (8 - (rows.getD i.toNat []).length) < n
end Go.Schur
namespace Go.Schur
open Go Go.Ab Go.Proofs
theorem boxW_succ {l : List Int} {i : Nat} (hi : i < l.length) : boxW (l.take (i + 1)) = wr .i64 (boxW (l.take i) + l.getD i 0):=by
 unfold boxW
 rw [List.take_succ_eq_append_getElem hi,List.foldl_append,List.getD_eq_getElem?_getD,List.getElem?_eq_getElem hi]
 rfl
theorem take_all {l : List Int} (h : (List.range l.length).all (fun i=>rowOk l i && !ilt 8 (boxW (l.take (i + 1)))) = true) : ∀ i,i ≤ l.length → boxW (l.take i) = (l.take i).sum ∧ (i:Int) ≤ (l.take i).sum ∧ (l.take i).sum ≤ 8
 | 0,_=>by simp [boxW]
 | i + 1,hi=>by
  have ih:=take_all h i (by omega)
  have hok:=List.all_eq_true.1 h i (List.mem_range.2 (by omega))
  simp only [Bool.and_eq_true,Bool.not_eq_true'] at hok
  have h1:=(rowOk_iff.1 hok.1).1
  have h2:=ilt_false.1 hok.2
  have h3 : (l.take (i + 1)).sum = (l.take i).sum + l.getD i 0:=by
   rw [List.take_succ_eq_append_getElem (by omega),List.sum_append,List.getD_eq_getElem?_getD,List.getElem?_eq_getElem (by omega)]
   simp
  rw [boxW_succ (by omega),wr_id (by omega)] at h2
  rw [boxW_succ (by omega),wr_id (by omega),h3]
  omega
theorem take_sum_le {l : List Int} (h : ∀ x ∈ l,0 ≤ x) (i:Nat) : (l.take i).sum ≤ l.sum:=by
 have h1 : l.sum = (l.take i).sum + (l.drop i).sum:=by rw [← List.sum_append,List.take_append_drop]
 have h2 : ∀ (l:List Int),(∀ x ∈ l,0 ≤ x) → 0 ≤ l.sum:=by
  intro l
  induction l with
  | nil=>intro _;simp
  | cons a l ih=>intro h;have:=ih (fun x hx=>h x (by simp [hx]));have:=h a (by simp);simp only [List.sum_cons];omega
 have:=h2 (l.drop i) (fun x hx=>h x (List.mem_of_mem_drop hx))
 omega
theorem shape_all {l : List Int} : (List.range l.length).all (fun i=>rowOk l i && !ilt 8 (boxW (l.take (i + 1)))) = shapeB l:=by
 rw [Bool.eq_iff_iff]
 constructor
 ·intro h
  have h1:=take_all h l.length (Nat.le_refl _)
  rw [List.take_length] at h1
  refine shapeB_iff.2 ⟨by omega,fun i hi=>?_,h1.2.2⟩
  have:=List.all_eq_true.1 h i (List.mem_range.2 hi)
  simp only [Bool.and_eq_true] at this
  exact this.1
 ·intro h
  have h8:=shape_mem h
  obtain ⟨h1,h2,h3⟩:=shapeB_iff.1 h
  refine List.all_eq_true.2 fun i hi=>?_
  have hi:=List.mem_range.1 hi
  have h4:=take_sum_le (fun x hx=>by have:=h8 x hx;omega) (i + 1)
  have h5 : boxW (l.take (i + 1)) = (l.take (i + 1)).sum:=boxW_sum (fun x hx=>by have:=h8 x (List.mem_of_mem_take hx);omega) (by simp;omega)
  simp only [h2 i hi,Bool.true_and,h5,Bool.not_eq_true']
  exact ilt_false.2 (by omega)
theorem goal22 : con22.goal Try.prog (spOf []) g22_sh [] lm30:=by
 have e : (∀ (l:List Int),small l → g22 l = some (shapeB l,())) = con22.goal Try.prog (spOf []) g22_sh [] lm30:=by kernel_rfl
 rw [← e]
 intro l hl
 unfold small at hl
 unfold g22
 refine whileO_all2 (fun i=>(boxW (l.take i),(i:Int),())) (fun i=>rowOk l i && !ilt 8 (boxW (l.take (i + 1)))) l.length (false,()) (true,()) _ ?_ ?_ ?_
 rotate_left
 ·simp [ilt]
 ·rw [shape_all];cases shapeB l <;> rfl
 intro i hi
 have h4 : wr .i64 ((i:Int) + 1) = ((i + 1:Nat):Int):=(wr_id (by omega)).trans (by omega)
 simp only [ilt_iff.2 (show (i:Int) < l.length by omega),cond_true,Int.toNat_natCast,h4,← boxW_succ hi]
 rw [gd_pos ⟨by omega,by omega⟩]
 simp only [imp_self,gd_true]
 by_cases h1 : l.getD i 0 < 1
 ·have : rowOk l i = false:=by simp only [rowOk,decide_eq_false (show ¬ 1 ≤ l.getD i 0 by omega),Bool.false_and]
  rw [this]
  generalize l.getD i 0 = v at h1
  simp [ilt_iff.2 h1,gd_true]
 by_cases h2 : 8 < l.getD i 0
 ·have : rowOk l i = false:=by simp only [rowOk,decide_eq_false (show ¬ l.getD i 0 ≤ 8 by omega),Bool.false_and,Bool.and_false]
  rw [this]
  generalize l.getD i 0 = v at h1 h2
  simp [ilt_false.2 (show (1:Int) ≤ v by omega),ilt_iff.2 h2,gd_true]
 cases i with
 | zero =>
  have : rowOk l 0 = true:=rowOk_iff.2 ⟨by omega,Or.inl rfl⟩
  rw [this]
  have h3 : ilt (0:Int) ((0:Nat):Int) = false:=by decide
  generalize l.getD 0 0 = v at h1 h2
  simp only [ilt_false.2 (show (1:Int) ≤ v by omega),ilt_false.2 (show v ≤ 8 by omega),h3]
  generalize ilt 8 (boxW (l.take (0 + 1))) = q
  cases q <;> simp [gd_true]
 | succ i =>
  have h3 : ilt (0:Int) ((i + 1:Nat):Int) = true:=ilt_iff.2 (by omega)
  have h5 : wr .i64 (((i + 1:Nat):Int) - 1) = (i:Int):=(wr_id (by omega)).trans (by omega)
  simp only [ilt_false.2 (show (1:Int) ≤ l.getD (i + 1) 0 by omega),ilt_false.2 (show l.getD (i + 1) 0 ≤ 8 by omega),h3,h5,Int.toNat_natCast,gd_true,cond_true,cond_false,Bool.not_false,Bool.and_self,imp_self,true_and,true_implies]
  rw [gd_pos ⟨by omega,by omega⟩]
  by_cases h6 : l.getD i 0 < l.getD (i + 1) 0
  ·have : rowOk l (i + 1) = false:=Bool.eq_false_iff.2 (fun h=>by have:=(rowOk_iff.1 h).2;simp only [Nat.add_sub_cancel] at this;omega)
   rw [cond_t (ilt_iff.2 h6),this];rfl
  ·have : rowOk l (i + 1) = true:=rowOk_iff.2 ⟨by omega,Or.inr (by simp only [Nat.add_sub_cancel];omega)⟩
   rw [cond_f (ilt_false.2 (by omega)),this]
   generalize ilt 8 (boxW (l.take (i + 1 + 1))) = q
   cases q <;> rfl
set_option maxRecDepth 100000 in
theorem ok22 : con22.Ok Try.prog:=Con.of_goal mixed okN con22 goal22
theorem all_eq {A : Type} [DecidableEq A] {a b : List A} {d : A} (h : a.length = b.length) : (List.range a.length).all (fun i=>decide (a.getD i d = b.getD i d)) = decide (a = b):=by
 rw [Bool.eq_iff_iff,List.all_eq_true,decide_eq_true_iff]
 constructor
 ·intro hh
  refine List.ext_getElem h fun i h1 h2=>?_
  have:=of_decide_eq_true (hh i (List.mem_range.2 h1))
  simpa [List.getD_eq_getElem?_getD,List.getElem?_eq_getElem h1,List.getElem?_eq_getElem h2] using this
 ·rintro rfl i _
  simp
theorem goal51 : con51.goal Try.prog (spOf []) g51_sh [] lm30:=by
 have e : (∀ (a b:List Int),small a → g51 a b = some (eqL1 a b,())) = con51.goal Try.prog (spOf []) g51_sh [] lm30:=by kernel_rfl
 rw [← e]
 intro a b hs
 unfold small at hs
 unfold g51 eqL1
 by_cases hl : a.length = b.length
 ·rw [ieq_iff.2 (by omega),Bool.not_true,cond_false]
  refine whileO_all2 (fun i=>((i:Int),())) (fun i=>decide (a.getD i 0 = b.getD i 0)) a.length (false,()) (true,()) _ ?_ ?_ ?_
  rotate_left
  ·simp [ilt]
  ·rw [all_eq hl];cases decide (a = b) <;> rfl
  intro i hi
  have h4 : wr .i64 ((i:Int) + 1) = ((i + 1:Nat):Int):=(wr_id (by omega)).trans (by omega)
  simp only [ilt_iff.2 (show (i:Int) < a.length by omega),cond_true,Int.toNat_natCast,h4]
  rw [gd_pos ⟨by omega,by omega⟩,gd_pos ⟨by omega,by omega⟩]
  by_cases h : a.getD i 0 = b.getD i 0
  ·rw [ieq_iff.2 h,decide_eq_true h];rfl
  ·rw [ieq_false.2 h,decide_eq_false h];rfl
 ·rw [ieq_false.2 (by omega),decide_eq_false (fun h=>hl (by rw [h]))];rfl
set_option maxRecDepth 100000 in
theorem ok51 : con51.Ok Try.prog:=Con.of_goal mixed okN con51 goal51
theorem mem_getD {A : Type} {a : List A} {d : A} {i : Nat} (h : i < a.length) : a.getD i d ∈ a:=by
 rw [List.getD_eq_getElem?_getD,List.getElem?_eq_getElem h];exact List.getElem_mem h
theorem goal74 : con74.goal Try.prog (spOf [con51]) g74_sh [] lm30:=by
 have e : (∀ (a b:List (List Int)),(small a ∧ ∀ r ∈ a,small r) → g74 a b = some (eqL2 a b,())) = con74.goal Try.prog (spOf [con51]) g74_sh [] lm30:=by kernel_rfl
 rw [← e]
 rintro a b ⟨hs,hm⟩
 unfold small at hs
 unfold g74 eqL2
 by_cases hl : a.length = b.length
 ·rw [ieq_iff.2 (by omega),Bool.not_true,cond_false]
  refine whileO_all2 (fun i=>((i:Int),())) (fun i=>decide (a.getD i [] = b.getD i [])) a.length (false,()) (true,()) _ ?_ ?_ ?_
  rotate_left
  ·simp [ilt]
  ·rw [all_eq hl];cases decide (a = b) <;> rfl
  intro i hi
  have h4 : wr .i64 ((i:Int) + 1) = ((i + 1:Nat):Int):=(wr_id (by omega)).trans (by omega)
  simp only [ilt_iff.2 (show (i:Int) < a.length by omega),cond_true,Int.toNat_natCast,h4]
  rw [gd_pos ⟨by omega,by omega⟩,gd_pos ⟨by omega,by omega⟩,gd_pos (hm _ (mem_getD hi))]
  unfold eqL1
  cases decide (a.getD i [] = b.getD i []) <;> rfl
 ·rw [ieq_false.2 (by omega),decide_eq_false (fun h=>hl (by rw [h]))];rfl
set_option maxRecDepth 100000 in
theorem ok74 : con74.Ok Try.prog:=Con.of_goal mixed (okC ok51 okN) con74 goal74
theorem goal27 : con27.goal Try.prog (spOf [con74]) g27_sh [] lm30:=by
 have e : (∀ (a b:List (List Int)),(small a ∧ ∀ r ∈ a,small r) → g27 a b = some (eqL2 a b,())) = con27.goal Try.prog (spOf [con74]) g27_sh [] lm30:=by kernel_rfl
 rw [← e]
 intro a b h
 exact gd_pos h
set_option maxRecDepth 100000 in
theorem ok27 : con27.Ok Try.prog:=Con.of_goal mixed (okC ok74 okN) con27 goal27
theorem goal24 : con24.goal Try.prog (spOf [con19,con27]) g24_sh [] lm30:=by
 have e : (g24 = some (true,())) = con24.goal Try.prog (spOf [con19,con27]) g24_sh [] lm30:=by kernel_rfl
 rw [← e]
 have h : fillF [1] [0,1] = ([[[2]]],0,()):=by decide +kernel
 unfold g24
 rw [h]
 simp [gd_true,ieq,small,eqL2]
 refine gd_pos fun x hx=>?_
 have hx : x ∈ [[2]]:=hx
 rw [List.mem_singleton.1 hx];simp
set_option maxRecDepth 100000 in
theorem ok24 : con24.Ok Try.prog:=Con.of_goal mixed (okC ok19 (okC ok27 okN)) con24 goal24
end Go.Schur
namespace Go.Schur
open Go Go.Ab Go.Proofs
theorem getD_set {A : Type} {a : List A} {i k : Nat} {x d : A} (h : i < a.length) : (a.set i x).getD k d = if k = i then x else a.getD k d:=by
 simp only [List.getD_eq_getElem?_getD,List.getElem?_set]
 by_cases hk : i = k
 ·subst hk;simp [h]
 ·rw [if_neg hk,if_neg (fun e=>hk e.symm)]
end Go.Schur
namespace Go.Schur
open Go Go.Ab Go.Proofs
end Go.Schur
