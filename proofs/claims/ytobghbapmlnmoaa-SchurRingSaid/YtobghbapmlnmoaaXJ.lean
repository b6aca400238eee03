/- All shapes,words,contents: contracts. -/
import Derived.Test.YtobghbapmlnmoaaXI
import Derived.Test.YtobghbapmlnmoaaXG
import Derived.Shelf.Sort.Plain
import Derived.Shelf.Slices.In.SortNone2
import Derived.Test.YtobghbapmlnmoaaProg
import Derived.Test.YtobghbapmlnmoaaAT
import Derived.Sort.OwnSortedInts
set_option linter.unusedVariables false
set_option linter.unusedSimpArgs false
namespace Go.Schur
open Go Go.Ab Go.Proofs
def shapesF (n:Int) : List (List Int):=(P n.toNat).map toI
end Go.Schur
namespace Go.Schur
open Go Go.Ab Go.Proofs
end Go.Schur
namespace Go.Schur
open Go Go.Ab Go.Proofs
end Go.Schur
namespace Go.Schur
open Go Go.Ab Go.Proofs
def revI (l:List Int) : List Int:=l.reverse
def first12 (l:List Int) : List Int:=l.take 12
noncomputable def con59 : SCon:=mkS 59 [.slf 0 1] [.arr I64 true] [] [.arr I64 true] (fun (l:List Int)=>[l.length ≤ 1000]) (fun (l:List Int)=>(revI l,()))
noncomputable def g59 (x0:List Int) : Option (List Int × Unit):=gd (List.length x0 = List.length x0) (whileO (fun (d1 : Int × Int × List Int × Unit)=>bif ilt d1.1 d1.2.1 then gd ((0:Int) ≤ d1.2.1 ∧ d1.2.1 < (↑(List.length d1.2.2.1):Int)) (gd ((0:Nat) + Int.toNat d1.2.1 < List.length d1.2.2.1) (gd ((0:Int) ≤ d1.1 ∧ d1.1 < (↑(List.length d1.2.2.1):Int)) (gd ((0:Nat) + Int.toNat d1.1 < List.length d1.2.2.1) (gd ((0:Int) ≤ d1.1 ∧ d1.1 < (↑(List.length d1.2.2.1):Int)) (gd ((0:Nat) + Int.toNat d1.1 < List.length d1.2.2.1) (gd ((0:Int) ≤ d1.2.1 ∧ d1.2.1 < (↑(List.length d1.2.2.1):Int)) (gd ((0:Nat) + Int.toNat d1.2.1 < List.length (List.set d1.2.2.1 ((0:Nat) + Int.toNat d1.1) (List.getD d1.2.2.1 ((0:Nat) + Int.toNat d1.2.1) (0:Int)))) (gd (List.length d1.2.2.1 = List.length (List.set (List.set d1.2.2.1 ((0:Nat) + Int.toNat d1.1) (List.getD d1.2.2.1 ((0:Nat) + Int.toNat d1.2.1) (0:Int))) ((0:Nat) + Int.toNat d1.2.1) (List.getD d1.2.2.1 ((0:Nat) + Int.toNat d1.1) (0:Int)))) (some (Lp.go ((wr .i64 (d1.1 + (1:Int)),wr .i64 (d1.2.1 - (1:Int)),List.set (List.set d1.2.2.1 ((0:Nat) + Int.toNat d1.1) (List.getD d1.2.2.1 ((0:Nat) + Int.toNat d1.2.1) (0:Int))) ((0:Nat) + Int.toNat d1.2.1) (List.getD d1.2.2.1 ((0:Nat) + Int.toNat d1.1) (0:Int)),()) : Int × Int × List Int × Unit))))))))))) else some (Lp.out ((d1.2.2.1,()) : List Int × Unit))) (((0:Int),wr .i64 ((↑(List.length x0):Int) - (1:Int)),x0,()) : Int × Int × List Int × Unit))
noncomputable def g59_sh : List LSh:=LSh.mk3 (((0,TV.slf (0) (1)) : Nat × TV) :: ((2,TV.v (Ty.int IntKind.i64)) : Nat × TV) :: ((3,TV.v (Ty.int IntKind.i64)) : Nat × TV) :: ([] : List (Nat × TV))) (TB.arr (Ty.int IntKind.i64) true :: ([] : List TB)) (1) :: ([] : List LSh)
noncomputable def con20s : SCon:=mkS 20 [.v LI] [] [.slf 0 1] [.arr I64 true] (fun (l:List Int)=>[]) (fun (l:List Int)=>(first12 l,()))
noncomputable def g20s (x0:List Int) : Option (List Int × Unit):=gd ((0:Int) ≤ imin (↑(List.length x0):Int) (12:Int) ∧ imin (↑(List.length x0):Int) (12:Int) ≤ (↑(List.length x0):Int)) (gd (List.length (List.take (Int.toNat (imin (↑(List.length x0):Int) (12:Int))) x0) ≤ (100000:Nat)) (gd (List.length (List.take (Int.toNat (imin (↑(List.length x0):Int) (12:Int))) x0) = List.length (List.take (Int.toNat (imin (↑(List.length x0):Int) (12:Int))) x0)) (some ((List.take (Int.toNat (imin (↑(List.length x0):Int) (12:Int))) x0,()) : List Int × Unit))))
noncomputable def g20s_sh : List LSh:=([] : List LSh)
end Go.Schur
namespace Go.Schur
open Go Go.Ab Go.Proofs
theorem goal20s : con20s.goal Try.prog (spS [con39s] []) g20s_sh [] lm30:=by
  have e : (∀ (l:List Int),True → g20s l = some (first12 l,())) = (∀ (l:List Int),True → g20s l = some (first12 l,())):=rfl
  have e : (∀ (l:List Int),g20s l = some (first12 l,())) = con20s.goal Try.prog (spS [con39s] []) g20s_sh [] lm30:=by kernel_rfl
  rw [← e]
  intro l
  unfold g20s first12
  have h : (imin (l.length:Int) 12).toNat = min l.length 12:=by unfold imin;split <;> omega
  rw [h,gd_pos (by unfold imin;split <;> omega),gd_pos (by simp;omega),gd_pos rfl]
  have : l.take (min l.length 12) = l.take 12:=by
    rcases Nat.le_total l.length 12 with h | h
    · rw [Nat.min_eq_left h,List.take_length,List.take_of_length_le h]
    · rw [Nat.min_eq_right h]
  rw [this]
set_option maxRecDepth 100000 in
theorem ok20s : con20s.Ok Try.prog:=SCon.of_goal mixed okN (okS ok39s okS0) con20s goal20s
theorem getD_rev {l : List Int} {i : Nat} (h : i < l.length) : l.reverse.getD i 0 = l.getD (l.length - 1 - i) 0:=by
  rw [List.getD_eq_getElem?_getD,List.getElem?_reverse h,← List.getD_eq_getElem?_getD]
theorem ext_getD {a b : List Int} (hl : a.length = b.length) (h : ∀ j,j < b.length → a.getD j 0 = b.getD j 0) : a = b:=by
  refine List.ext_getElem hl fun j h1 h2=>?_
  have:=h j h2
  rw [List.getD_eq_getElem?_getD,List.getD_eq_getElem?_getD,List.getElem?_eq_getElem h1,List.getElem?_eq_getElem h2] at this
  exact this
theorem goal59 : con59.goal Try.prog (spS [] []) g59_sh [] lm30:=by
  have e : (∀ (l:List Int),l.length ≤ 1000 → g59 l = some (revI l,())) = con59.goal Try.prog (spS [] []) g59_sh [] lm30:=by kernel_rfl
  rw [← e]
  intro l hl
  unfold g59
  rw [gd_pos rfl]
  let st : Nat → List Int:=fun i=>(List.range l.length).map fun j=>if j < i ∨ l.length ≤ j + i then l.getD (l.length - 1 - j) 0 else l.getD j 0
  have stl : ∀ i,(st i).length = l.length:=fun i=>by simp [st]
  have stg : ∀ i j,j < l.length → (st i).getD j 0 = if j < i ∨ l.length ≤ j + i then l.getD (l.length - 1 - j) 0 else l.getD j 0:=fun i j hj=>by
    rw [List.getD_eq_getElem?_getD,List.getElem?_map,List.getElem?_range hj];rfl
  have s0 : st 0 = l:=by
    refine List.ext_getElem (stl 0) fun j h1 h2=>?_
    have:=stg 0 j h2
    rw [if_neg (by omega),List.getD_eq_getElem?_getD,List.getD_eq_getElem?_getD,List.getElem?_eq_getElem h1,List.getElem?_eq_getElem h2] at this
    simpa using this
  have key : ∀ (c i:Nat),c + 2 * i = l.length → whileO (fun (d1 : Int × Int × List Int × Unit)=>bif ilt d1.1 d1.2.1 then gd ((0:Int) ≤ d1.2.1 ∧ d1.2.1 < (↑(List.length d1.2.2.1):Int)) (gd ((0:Nat) + Int.toNat d1.2.1 < List.length d1.2.2.1) (gd ((0:Int) ≤ d1.1 ∧ d1.1 < (↑(List.length d1.2.2.1):Int)) (gd ((0:Nat) + Int.toNat d1.1 < List.length d1.2.2.1) (gd ((0:Int) ≤ d1.1 ∧ d1.1 < (↑(List.length d1.2.2.1):Int)) (gd ((0:Nat) + Int.toNat d1.1 < List.length d1.2.2.1) (gd ((0:Int) ≤ d1.2.1 ∧ d1.2.1 < (↑(List.length d1.2.2.1):Int)) (gd ((0:Nat) + Int.toNat d1.2.1 < List.length (List.set d1.2.2.1 ((0:Nat) + Int.toNat d1.1) (List.getD d1.2.2.1 ((0:Nat) + Int.toNat d1.2.1) (0:Int)))) (gd (List.length d1.2.2.1 = List.length (List.set (List.set d1.2.2.1 ((0:Nat) + Int.toNat d1.1) (List.getD d1.2.2.1 ((0:Nat) + Int.toNat d1.2.1) (0:Int))) ((0:Nat) + Int.toNat d1.2.1) (List.getD d1.2.2.1 ((0:Nat) + Int.toNat d1.1) (0:Int)))) (some (Lp.go ((wr .i64 (d1.1 + (1:Int)),wr .i64 (d1.2.1 - (1:Int)),List.set (List.set d1.2.2.1 ((0:Nat) + Int.toNat d1.1) (List.getD d1.2.2.1 ((0:Nat) + Int.toNat d1.2.1) (0:Int))) ((0:Nat) + Int.toNat d1.2.1) (List.getD d1.2.2.1 ((0:Nat) + Int.toNat d1.1) (0:Int)),()) : Int × Int × List Int × Unit))))))))))) else some (Lp.out ((d1.2.2.1,()) : List Int × Unit))) ((i:Int),((l.length:Int) - 1 - i),st i,()) = some (revI l,()):=by
    intro c
    induction c using Nat.strongRecOn with
    | ind c ih =>
      intro i hi
      by_cases hc : c ≤ 1
      · refine whileO_out ?_
        simp only [ilt_false.2 (show (l.length:Int) - 1 - i ≤ (i:Int) by omega),cond_false]
        congr 3
        refine List.ext_getElem (by simp [revI,stl]) fun j h1 h2=>?_
        rw [stl] at h1
        have e1:=stg i j h1
        have e2 : (revI l).getD j 0 = l.getD (l.length - 1 - j) 0:=getD_rev h1
        have e3 : (st i).getD j 0 = (revI l).getD j 0:=by
          rw [e1,e2]
          split
          · rfl
          · congr 1;omega
        rw [List.getD_eq_getElem?_getD,List.getD_eq_getElem?_getD,List.getElem?_eq_getElem (by rw [stl];exact h1),List.getElem?_eq_getElem h2] at e3
        simpa using e3
      · have hlt : ilt (i:Int) ((l.length:Int) - 1 - i) = true:=ilt_iff.2 (by omega)
        have ej : ((l.length:Int) - 1 - i) = ((l.length - 1 - i:Nat):Int):=by omega
        refine (whileO_go (s':=(((i + 1:Nat):Int),((l.length:Int) - 1 - ((i + 1:Nat):Int)),st (i + 1),())) ?_).trans (ih (c - 2) (by omega) (i + 1) (by omega))
        simp only [hlt,cond_true]
        rw [ej]
        simp only [Int.toNat_natCast,Nat.zero_add,stl,List.length_set]
        have w1 : wr .i64 ((i:Int) + 1) = (i + 1:Nat):=(wr_id (by omega)).trans (by omega)
        have w2 : wr .i64 (((l.length - 1 - i:Nat):Int) - 1) = (l.length:Int) - 1 - ((i + 1:Nat):Int):=(wr_id (by omega)).trans (by omega)
        rw [gd_pos ⟨by omega,by omega⟩,gd_pos (by omega),gd_pos ⟨by omega,by omega⟩,gd_pos (by omega),gd_pos ⟨by omega,by omega⟩,gd_pos (by omega),gd_pos ⟨by omega,by omega⟩,gd_pos (by omega),gd_true,w1,w2]
        refine congrArg (fun x=>some (Lp.go ((((i + 1:Nat):Int),(l.length:Int) - 1 - ((i + 1:Nat):Int),x,()) : Int × Int × List Int × Unit))) ?_
        refine ext_getD (by rw [List.length_set,List.length_set,stl,stl]) fun j h2=>?_
        have hj : j < l.length:=by rw [stl] at h2;exact h2
        have e1:=stg (i + 1) j hj
        have e2:=stg i j hj
        have e3:=stg i (l.length - 1 - i) (by omega)
        have e4:=stg i i (by omega)
        rw [if_neg (by omega)] at e3 e4
        have e5 : ((st i).set i ((st i).getD (l.length - 1 - i) 0)).set (l.length - 1 - i) ((st i).getD i 0) = ((st i).set i (l.getD (l.length - 1 - i) 0)).set (l.length - 1 - i) (l.getD i 0):=by rw [e3,e4]
        have e6 : (((st i).set i (l.getD (l.length - 1 - i) 0)).set (l.length - 1 - i) (l.getD i 0)).getD j 0 = (st (i + 1)).getD j 0:=by
          rw [e1]
          rw [List.getD_eq_getElem?_getD,List.getElem?_set]
          by_cases k1 : l.length - 1 - i = j
          · rw [if_pos k1,if_pos (by simp [stl];omega),if_pos (by omega)]
            show l.getD i 0 = _
            congr 1;omega
          · rw [if_neg k1,List.getElem?_set]
            by_cases k2 : i = j
            · rw [if_pos k2,if_pos (by rw [stl];omega),if_pos (by omega)]
              show l.getD (l.length - 1 - i) 0 = _
              congr 1;omega
            · rw [if_neg k2,← List.getD_eq_getElem?_getD,e2]
              by_cases k3 : j < i ∨ l.length ≤ j + i
              · rw [if_pos k3,if_pos (by omega)]
              · rw [if_neg k3,if_neg (by omega)]
        rw [← e5] at e6
        exact e6
  have h0:=key l.length 0 (by omega)
  have w0 : wr .i64 ((l.length:Int) - 1) = (l.length:Int) - 1 - ((0:Nat):Int):=(wr_id (by omega)).trans (by omega)
  rw [w0]
  rw [s0] at h0
  exact h0
set_option maxRecDepth 100000 in
theorem ok59 : con59.Ok Try.prog:=SCon.of_goal mixed okN okS0 con59 goal59
end Go.Schur
namespace Go.Schur
open Go Go.Ab Go.Proofs
end Go.Schur
namespace Go.Schur
open Go Go.Ab Go.Proofs
end Go.Schur
