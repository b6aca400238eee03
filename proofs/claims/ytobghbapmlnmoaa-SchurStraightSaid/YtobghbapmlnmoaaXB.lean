/- Fillings: contracts of what calls maker.make,and of the reference. -/
import Derived.Test.YtobghbapmlnmoaaXA
set_option linter.unusedVariables false
set_option linter.unusedSimpArgs false
namespace Go.Schur
open Go Go.Ab Go.Proofs
noncomputable def con39 : Con:=mkC 39 [.d LI] [LI] (fun (l:List Int)=>[l.length ≤ 100000]) (fun (l:List Int)=>(l,()))
noncomputable def g39 (x0:List Int) : Option (List Int × Unit):=Option.map id (eqO (List.length x0 = 0) (some ((([]:List Int),()) : List Int × Unit)) (gd ((0:Nat) ≤ 0) (gd ((0 + List.length x0) * (8:Nat) ≤ 1099511627776) (gd (0 + (0 + List.length x0) ≤ List.length x0) (some ((List.take (0 + List.length x0) (List.drop 0 x0),()) : List Int × Unit))))))
noncomputable def g39_sh : List LSh:=([] : List LSh)
noncomputable def con20 : Con:=mkC 20 [.d LI] [LI] (fun (l:List Int)=>[]) (fun (l:List Int)=>(l.take 12,()))
noncomputable def g20 (x0:List Int) : Option (List Int × Unit):=gd (0 ≤ imin (↑(List.length x0):Int) 12 ∧ imin (↑(List.length x0):Int) 12 ≤ (↑(List.length x0):Int)) (gd (List.length (List.take (Int.toNat (imin (↑(List.length x0):Int) 12)) x0) ≤ 100000) (some ((List.take (Int.toNat (imin (↑(List.length x0):Int) 12)) x0,()) : List Int × Unit)))
noncomputable def g20_sh : List LSh:=([] : List LSh)
def boxW (l:List Int) : Int:=l.foldl (fun s x=>wr .i64 (s + x)) 0
noncomputable def con86 : Con:=mkC 86 [.d LI] [I64] (fun (l:List Int)=>[l.length ≤ 1000]) (fun (l:List Int)=>(boxW l,()))
noncomputable def g86 (x0:List Int) : Option (Int × Unit):=whileO (fun (d1 : Int × Int × Unit)=>bif ilt d1.2.1 (↑(List.length x0):Int) then gd (0 ≤ d1.2.1 ∧ d1.2.1 < (↑(List.length x0):Int)) (some (Lp.go ((wr .i64 (d1.1 + List.getD x0 (Int.toNat d1.2.1) 0),wr .i64 (d1.2.1 + 1),()) : Int × Int × Unit))) else some (Lp.out ((d1.1,()) : Int × Unit))) ((0,0,()) : Int × Int × Unit)
noncomputable def g86_sh : List LSh:=LSh.mk (((3,TV.v (Ty.int IntKind.i64)) : Nat × TV) :: ((8,TV.v (Ty.int IntKind.i64)) : Nat × TV) :: ([] : List (Nat × TV))) ([] : List TB) :: ([] : List LSh)
def rowOk (l:List Int) (i:Nat) : Bool:=decide (1 ≤ l.getD i 0) && decide (l.getD i 0 ≤ 8) && (decide (i = 0) || decide (l.getD i 0 ≤ l.getD (i - 1) 0))
def shapeB (l:List Int) : Bool:=decide (l.length ≤ 8) && (List.range l.length).all (rowOk l) && decide (l.sum ≤ 8)
noncomputable def con66 : Con:=mkC 66 [.d LI] [.bool] (fun (l:List Int)=>[l.length ≤ 1000]) (fun (l:List Int)=>(shapeB l,()))
noncomputable def g66 (x0:List Int) : Option (Bool × Unit):=bif ilt 8 (↑(List.length x0):Int) then some ((false,()) : Bool × Unit) else whileO (fun (d1 : Int × Unit)=>bif ilt d1.1 (↑(List.length x0):Int) then gd (0 ≤ d1.1 ∧ d1.1 < (↑(List.length x0):Int)) (gd ((!ilt (List.getD x0 (Int.toNat d1.1) 0) 1) = true → (!ilt (List.getD x0 (Int.toNat d1.1) 0) 1) = true) (gd (ilt (List.getD x0 (Int.toNat d1.1) 0) 1 = false → (!ilt (List.getD x0 (Int.toNat d1.1) 0) 1) = true) (gd ((!bif ilt (List.getD x0 (Int.toNat d1.1) 0) 1 then true else ilt 8 (List.getD x0 (Int.toNat d1.1) 0)) = true → (!bif ilt (List.getD x0 (Int.toNat d1.1) 0) 1 then true else ilt 8 (List.getD x0 (Int.toNat d1.1) 0)) = true) (gd (((!bif ilt (List.getD x0 (Int.toNat d1.1) 0) 1 then true else ilt 8 (List.getD x0 (Int.toNat d1.1) 0)) && ((!bif ilt (List.getD x0 (Int.toNat d1.1) 0) 1 then true else ilt 8 (List.getD x0 (Int.toNat d1.1) 0)) && ilt 0 d1.1)) = true → ((!bif ilt (List.getD x0 (Int.toNat d1.1) 0) 1 then true else ilt 8 (List.getD x0 (Int.toNat d1.1) 0)) && ((!bif ilt (List.getD x0 (Int.toNat d1.1) 0) 1 then true else ilt 8 (List.getD x0 (Int.toNat d1.1) 0)) && ilt 0 d1.1)) = true) (gd (((!bif ilt (List.getD x0 (Int.toNat d1.1) 0) 1 then true else ilt 8 (List.getD x0 (Int.toNat d1.1) 0)) && ((!bif ilt (List.getD x0 (Int.toNat d1.1) 0) 1 then true else ilt 8 (List.getD x0 (Int.toNat d1.1) 0)) && ilt 0 d1.1)) = true → ((!bif ilt (List.getD x0 (Int.toNat d1.1) 0) 1 then true else ilt 8 (List.getD x0 (Int.toNat d1.1) 0)) && ((!bif ilt (List.getD x0 (Int.toNat d1.1) 0) 1 then true else ilt 8 (List.getD x0 (Int.toNat d1.1) 0)) && ilt 0 d1.1)) = true ∧ ((!bif ilt (List.getD x0 (Int.toNat d1.1) 0) 1 then true else ilt 8 (List.getD x0 (Int.toNat d1.1) 0)) && ((!bif ilt (List.getD x0 (Int.toNat d1.1) 0) 1 then true else ilt 8 (List.getD x0 (Int.toNat d1.1) 0)) && ilt 0 d1.1)) = true ∧ 0 ≤ wr .i64 (d1.1 - 1) ∧ wr .i64 (d1.1 - 1) < (↑(List.length x0):Int)) (gd (((!bif ilt (List.getD x0 (Int.toNat d1.1) 0) 1 then true else ilt 8 (List.getD x0 (Int.toNat d1.1) 0)) && ((!bif ilt (List.getD x0 (Int.toNat d1.1) 0) 1 then true else ilt 8 (List.getD x0 (Int.toNat d1.1) 0)) && ilt 0 d1.1)) = true → ((!bif ilt (List.getD x0 (Int.toNat d1.1) 0) 1 then true else ilt 8 (List.getD x0 (Int.toNat d1.1) 0)) && ((!bif ilt (List.getD x0 (Int.toNat d1.1) 0) 1 then true else ilt 8 (List.getD x0 (Int.toNat d1.1) 0)) && ilt 0 d1.1)) = true) (gd (((!bif ilt (List.getD x0 (Int.toNat d1.1) 0) 1 then true else ilt 8 (List.getD x0 (Int.toNat d1.1) 0)) && ((!bif ilt (List.getD x0 (Int.toNat d1.1) 0) 1 then true else ilt 8 (List.getD x0 (Int.toNat d1.1) 0)) && ilt 0 d1.1)) = true → ((!bif ilt (List.getD x0 (Int.toNat d1.1) 0) 1 then true else ilt 8 (List.getD x0 (Int.toNat d1.1) 0)) && ((!bif ilt (List.getD x0 (Int.toNat d1.1) 0) 1 then true else ilt 8 (List.getD x0 (Int.toNat d1.1) 0)) && ilt 0 d1.1)) = true ∧ ((!bif ilt (List.getD x0 (Int.toNat d1.1) 0) 1 then true else ilt 8 (List.getD x0 (Int.toNat d1.1) 0)) && ((!bif ilt (List.getD x0 (Int.toNat d1.1) 0) 1 then true else ilt 8 (List.getD x0 (Int.toNat d1.1) 0)) && ilt 0 d1.1)) = true) (gd ((!bif ilt (List.getD x0 (Int.toNat d1.1) 0) 1 then true else ilt 8 (List.getD x0 (Int.toNat d1.1) 0)) = true → (!bif ilt (List.getD x0 (Int.toNat d1.1) 0) 1 then true else ilt 8 (List.getD x0 (Int.toNat d1.1) 0)) = true ∧ (!bif ilt (List.getD x0 (Int.toNat d1.1) 0) 1 then true else ilt 8 (List.getD x0 (Int.toNat d1.1) 0)) = true ∧ (ilt 0 d1.1 = true → ((!bif ilt (List.getD x0 (Int.toNat d1.1) 0) 1 then true else ilt 8 (List.getD x0 (Int.toNat d1.1) 0)) && ((!bif ilt (List.getD x0 (Int.toNat d1.1) 0) 1 then true else ilt 8 (List.getD x0 (Int.toNat d1.1) 0)) && ilt 0 d1.1)) = true)) (gd ((bif ilt (List.getD x0 (Int.toNat d1.1) 0) 1 then true else ilt 8 (List.getD x0 (Int.toNat d1.1) 0)) = false → (!bif ilt (List.getD x0 (Int.toNat d1.1) 0) 1 then true else ilt 8 (List.getD x0 (Int.toNat d1.1) 0)) = true) (bif bif bif ilt (List.getD x0 (Int.toNat d1.1) 0) 1 then true else ilt 8 (List.getD x0 (Int.toNat d1.1) 0) then true else bif ilt 0 d1.1 then ilt (List.getD x0 (Int.toNat (wr .i64 (d1.1 - 1))) 0) (List.getD x0 (Int.toNat d1.1) 0) else false then some (Lp.out ((false,()) : Bool × Unit)) else some (Lp.go ((wr .i64 (d1.1 + 1),()) : Int × Unit)))))))))))) else gd (List.length x0 ≤ 1000) (some (Lp.out ((ile (boxW x0) 8,()) : Bool × Unit)))) ((0,()) : Int × Unit)
noncomputable def g66_sh : List LSh:=LSh.mk (((10,TV.v (Ty.int IntKind.i64)) : Nat × TV) :: ([] : List (Nat × TV))) ([] : List TB) :: ([] : List LSh)
def badX (x:Int) : Bool:=decide (x < 0) || decide (8 < x)
noncomputable def con108 : Con:=mkC 108 [.d I64] [.bool] (fun (x:Int)=>[]) (fun (x:Int)=>(badX x,()))
noncomputable def g108 (x0:Int) : Option (Bool × Unit):=gd ((!ilt x0 0) = true → (!ilt x0 0) = true) (gd (ilt x0 0 = false → (!ilt x0 0) = true) (some ((bif ilt x0 0 then true else ilt 8 x0,()) : Bool × Unit)))
noncomputable def g108_sh : List LSh:=([] : List LSh)
def ixBad : List Int → Int → Int
 | [],_=>-1
 | x :: l,i=>if badX x then i else ixBad l (i + 1)
noncomputable def con131 : Con:=mkC 131 [.d LI,.fn 108 []] [I64] (fun (l:List Int)=>[l.length ≤ 1000]) (fun (l:List Int)=>(ixBad l 0,()))
noncomputable def g131 (x0:List Int) : Option (Int × Unit):=whileO (fun (d1 : Int × Unit)=>bif ilt d1.1 (↑(List.length x0):Int) then gd (0 ≤ d1.1 ∧ d1.1 < (↑(List.length x0):Int)) (bif badX (List.getD x0 (Int.toNat d1.1) 0) then some (Lp.out ((d1.1,()) : Int × Unit)) else some (Lp.go ((wr .i64 (d1.1 + 1),()) : Int × Unit))) else some (Lp.out (((-1:Int),()) : Int × Unit))) ((0,()) : Int × Unit)
noncomputable def g131_sh : List LSh:=LSh.mk (((1,TV.fn (108) TV.nil) : Nat × TV) :: ((8,TV.v (Ty.int IntKind.i64)) : Nat × TV) :: ([] : List (Nat × TV))) ([] : List TB) :: ([] : List LSh)
noncomputable def con107 : Con:=mkC 107 [.d LI,.fn 108 []] [.bool] (fun (l:List Int)=>[l.length ≤ 1000]) (fun (l:List Int)=>(l.any badX,()))
noncomputable def g107 (x0:List Int) : Option (Bool × Unit):=gd (List.length x0 ≤ 1000) (some ((ile 0 (ixBad x0 0),()) : Bool × Unit))
noncomputable def g107_sh : List LSh:=([] : List LSh)
def contB (m:List Int) : Bool:=decide (m.length ≤ 8) && m.all (fun x=>decide (0 ≤ x) && decide (x ≤ 8)) && decide (m.sum ≤ 8)
noncomputable def con67 : Con:=mkC 67 [.d LI] [.bool] (fun (m:List Int)=>[m.length ≤ 1000]) (fun (m:List Int)=>(contB m,()))
noncomputable def g67 (x0:List Int) : Option (Bool × Unit):=gd (ile (↑(List.length x0):Int) 8 = true → ile (↑(List.length x0):Int) 8 = true ∧ List.length x0 ≤ 1000) (gd (ile (↑(List.length x0):Int) 8 = true → ile (↑(List.length x0):Int) 8 = true) (gd (ile (↑(List.length x0):Int) 8 = true → ile (↑(List.length x0):Int) 8 = true) (gd ((bif ile (↑(List.length x0):Int) 8 then !List.any x0 badX else false) = true → (bif ile (↑(List.length x0):Int) 8 then !List.any x0 badX else false) = true ∧ List.length x0 ≤ 1000) (gd ((bif ile (↑(List.length x0):Int) 8 then !List.any x0 badX else false) = true → (bif ile (↑(List.length x0):Int) 8 then !List.any x0 badX else false) = true) (gd ((bif ile (↑(List.length x0):Int) 8 then !List.any x0 badX else false) = true → (bif ile (↑(List.length x0):Int) 8 then !List.any x0 badX else false) = true) (some ((bif bif ile (↑(List.length x0):Int) 8 then !List.any x0 badX else false then ile (boxW x0) 8 else false,()) : Bool × Unit)))))))
noncomputable def g67_sh : List LSh:=([] : List LSh)
structure okIn (inner outer m:List Int) : Prop where
 il : inner.length ≤ 8
 ol : outer.length ≤ 8
 i0 : ∀ i : Nat,0 ≤ rowF inner i
 o8 : ∀ i : Nat,rowF outer i ≤ 8
 od : ∀ i : Nat,rowF outer (i + 1:Nat) ≤ rowF outer i
 ins : ∀ i : Nat,rowF inner i ≤ rowF outer i
 ml : m.length ≤ 8
 m8 : ∀ x ∈ m,0 ≤ x ∧ x ≤ 8
def eachF (inner outer m:List Int) : List (List (List Int)):=if wr .i64 (boxW outer - boxW inner) = boxW m then fil inner outer m.length false 81 m [] else []
noncomputable def con68 : SCon:=mkS 68 [.v LI,.v LI,.v LI,.fn 69 (.cons (.ref 0 1 0 0) .nil)] [.cells [.slf 1 1],.arr LLI true] [] [.cells [.slf 2 1],.dead,.arr LLI true] (fun (inner outer m:List Int) (out : List (List (List Int)))=>[okIn inner outer m ∧ out.length + (eachF inner outer m).length ≤ 500000000]) (fun (inner outer m:List Int) (out : List (List (List Int)))=>(out ++ eachF inner outer m,()))
noncomputable def g68 (x0 x1 x2:List Int) (x3 : List (List (List Int))) : Option (List (List (List Int)) × Unit):=gd (List.length x1 ≤ 1000) (gd (List.length x0 ≤ 1000) (gd (List.length x2 ≤ 1000) (bif !ieq (wr .i64 (boxW x1 - boxW x0)) (boxW x2) then gd (List.length x3 = List.length x3) (some ((x3,()) : List (List (List Int)) × Unit)) else gd ((0:Nat) ≤ 0) (gd ((0 + List.length x2) * (8:Nat) ≤ 1099511627776) (gd (0 + List.length x2 = List.length x2) (gd ((0:Nat) = 0) (gd (List.length x3 = List.length x3) (gd (preA 81 x0 x1 x2 (↑(List.length x2):Int) ([]:List (List Int)) x3) (gd (List.length (x3 ++ fil x0 x1 (↑(List.length x2):Int) false 81 x2 ([]:List (List Int))) = List.length (x3 ++ fil x0 x1 (↑(List.length x2):Int) false 81 x2 ([]:List (List Int)))) (some ((x3 ++ fil x0 x1 (↑(List.length x2):Int) false 81 x2 ([]:List (List Int)),()) : List (List (List Int)) × Unit)))))))))))
noncomputable def g68_sh : List LSh:=([] : List LSh)
def fillF (l m:List Int) : List (List (List Int)) × Int × Unit:=if shapeB l = true ∧ contB m = true then (eachF [] l m,0,()) else ([],2,())
noncomputable def con19 : Con:=mkC 19 [.d LI,.d LI] [L3I,I64] (fun (l m:List Int)=>[l.length ≤ 1000 ∧ m.length ≤ 1000]) (fun (l m:List Int)=>fillF l m)
noncomputable def g19 (x0 x1:List Int) : Option (List (List (List Int)) × Int × Unit):=gd (List.length x0 ≤ 1000) (gd ((!!shapeB x0) = true → (!!shapeB x0) = true ∧ List.length x1 ≤ 1000) (gd ((!!shapeB x0) = true → (!!shapeB x0) = true) (gd ((!shapeB x0) = false → (!!shapeB x0) = true) (bif bif !shapeB x0 then true else !contB x1 then some ((([] : List (List (List Int))),2,()) : List (List (List Int)) × Int × Unit) else gd ((0:Nat) = 0) (gd (okIn ([]:List Int) x0 x1 ∧ 0 + List.length (eachF ([]:List Int) x0 x1) ≤ 500000000) (gd (0 + List.length (eachF ([]:List Int) x0 x1) ≤ List.length (eachF ([]:List Int) x0 x1)) (some ((List.take (List.length (eachF ([]:List Int) x0 x1)) (List.drop 0 (eachF ([]:List Int) x0 x1)),0,()) : List (List (List Int)) × Int × Unit))))))))
noncomputable def g19_sh : List LSh:=([] : List LSh)
end Go.Schur
namespace Go.Schur
open Go Go.Ab Go.Proofs
theorem goal39 : con39.goal Try.prog (spOf []) g39_sh [5] lm30:=by
 have e : (∀ (l:List Int),l.length ≤ 100000 → g39 l = some (l,())) = con39.goal Try.prog (spOf []) g39_sh [5] lm30:=by kernel_rfl
 rw [← e]
 intro l hl
 unfold g39
 by_cases h : l.length = 0
 ·have : l = []:=List.length_eq_zero_iff.1 h
  subst this
  simp [gd_true,eqO]
 ·simp [gd_true,eqO,h]
  rw [gd_pos (by omega)]
set_option maxRecDepth 100000 in
theorem ok39 : con39.Ok Try.prog:=Con.of_goal mixed okN con39 goal39
theorem imin_eq {a b : Int} : imin a b = min a b:=by unfold imin;split <;> omega
theorem goal20 : con20.goal Try.prog (spOf [con39]) g20_sh [] lm30:=by
 have e : (∀ (l:List Int),g20 l = some (l.take 12,())) = con20.goal Try.prog (spOf [con39]) g20_sh [] lm30:=by kernel_rfl
 rw [← e]
 intro l
 unfold g20
 have h : imin (l.length:Int) 12 = ((min l.length 12:Nat):Int):=by rw [imin_eq];omega
 rw [h,Int.toNat_natCast,gd_pos ⟨by omega,by omega⟩,gd_pos (by simp;omega)]
 congr 2
 rcases Nat.le_total l.length 12 with h1 | h1
 ·rw [Nat.min_eq_left h1,List.take_of_length_le (Nat.le_refl _),List.take_of_length_le h1]
 ·rw [Nat.min_eq_right h1]
set_option maxRecDepth 100000 in
theorem ok20 : con20.Ok Try.prog:=Con.of_goal mixed (okC ok39 okN) con20 goal20
theorem goal86 : con86.goal Try.prog (spOf []) g86_sh [] lm30:=by
 have e : (∀ (l:List Int),l.length ≤ 1000 → g86 l = some (boxW l,())) = con86.goal Try.prog (spOf []) g86_sh [] lm30:=by kernel_rfl
 rw [← e]
 intro l hl
 unfold g86
 refine whileO_ind (fun i=>(boxW (l.take i),(i:Int),())) l.length _ (fun i hi=>?_) ?_
 ·have h4 : wr .i64 ((i:Int) + 1) = ((i + 1:Nat):Int):=(wr_id (by omega)).trans (by omega)
  simp only [ilt_iff.2 (show (i:Int) < l.length by omega),cond_true,Int.toNat_natCast,h4]
  have h5 : boxW (l.take (i + 1)) = wr .i64 (boxW (l.take i) + l.getD i 0):=by
   unfold boxW
   rw [List.take_succ_eq_append_getElem hi,List.foldl_append,List.getD_eq_getElem?_getD,List.getElem?_eq_getElem hi]
   rfl
  rw [gd_pos ⟨by omega,by omega⟩,h5]
 ·simp [ilt]
set_option maxRecDepth 100000 in
theorem ok86 : con86.Ok Try.prog:=Con.of_goal mixed okN con86 goal86
theorem whileO_all {S X : Type} {step : S → Option (Lp S X)} (st : Nat → S) (ok : Nat → Bool) (n:Nat) (xf xt : X) (hgo : ∀ i, i < n → ok i = true → step (st i) = some (.go (st (i + 1)))) (hbad : ∀ i, i < n → ok i = false → step (st i) = some (.out xf)) (hout : step (st n) = some (.out xt)) :
    whileO step (st 0) = some (if (List.range n).all ok = true then xt else xf):=by
  have key : ∀ c i,i + c = n → whileO step (st i) = some (if (List.range' i c).all ok = true then xt else xf):=by
    intro c
    induction c with
    | zero => intro i hi; have : i = n := by omega
              subst this;simpa using whileO_out hout
    | succ c ih =>
      intro i hi
      cases h : ok i with
      | true=>rw [whileO_go (hgo i (by omega) h),ih (i + 1) (by omega),List.range'_succ,List.all_cons,h,Bool.true_and]
      | false=>rw [whileO_out (hbad i (by omega) h),List.range'_succ,List.all_cons,h,Bool.false_and];rfl
  rw [List.range_eq_range']
  exact key n 0 (by omega)
theorem whileO_all2 {S X : Type} {step : S → Option (Lp S X)} (st : Nat → S) (ok : Nat → Bool) (n:Nat) (xf xt y : X) (hst : ∀ i,i < n → step (st i) = some (if ok i = true then .go (st (i + 1)) else .out xf)) (hout : step (st n) = some (.out xt)) (hy : (if (List.range n).all ok = true then xt else xf) = y) :
  whileO step (st 0) = some y:=by
 rw [← hy]
 exact whileO_all st ok n xf xt (fun i hi h=>(hst i hi).trans (by rw [if_pos h])) (fun i hi h=>(hst i hi).trans (by rw [h];rfl)) hout
theorem boxW_sum {l : List Int} (h : ∀ x ∈ l,0 ≤ x ∧ x ≤ 8) (hl : l.length ≤ 100000) : boxW l = l.sum:=by
 have key : ∀ (l:List Int) (s:Int),(∀ x ∈ l,0 ≤ x ∧ x ≤ 8) → 0 ≤ s → s + 8 * l.length ≤ 9000000 → l.foldl (fun s x=>wr .i64 (s + x)) s = s + l.sum:=by
  intro l
  induction l with
  | nil=>intro s _ _ _;simp
  | cons a l ih =>
   intro s h h0 hs
   have ha:=h a (by simp)
   simp only [List.length_cons] at hs
   rw [List.foldl_cons,wr_id (by omega),ih (s + a) (fun x hx=>h x (by simp [hx])) (by omega) (by omega),List.sum_cons]
   omega
 have:=key l 0 h (by omega) (by omega)
 unfold boxW
 omega
theorem rowOk_iff {l : List Int} {i : Nat} : rowOk l i = true ↔ (1 ≤ l.getD i 0 ∧ l.getD i 0 ≤ 8) ∧ (i = 0 ∨ l.getD i 0 ≤ l.getD (i - 1) 0):=by
 simp [rowOk,List.getD_eq_getElem?_getD]
theorem goal66 : con66.goal Try.prog (spOf [con86]) g66_sh [] lm30:=by
 have e : (∀ (l:List Int),l.length ≤ 1000 → g66 l = some (shapeB l,())) = con66.goal Try.prog (spOf [con86]) g66_sh [] lm30:=by kernel_rfl
 rw [← e]
 intro l hl
 unfold g66
 by_cases h8 : l.length ≤ 8
 ·rw [cond_f (ilt_false.2 (by omega))]
  refine whileO_all2 (fun i=>((i:Int),())) (rowOk l) l.length (false,()) (decide (boxW l ≤ 8),()) _ ?_ ?_ ?_
  rotate_left
  ·simp [ilt,gd,hl,ile]
  ·by_cases hr : (List.range l.length).all (rowOk l) = true
   ·have hs : boxW l = l.sum:=boxW_sum (fun x hx=>by
     obtain ⟨i,hi,rfl⟩:=List.getElem_of_mem hx
     have:=(rowOk_iff.1 (List.all_eq_true.1 hr i (List.mem_range.2 hi))).1
     rw [List.getD_eq_getElem?_getD,List.getElem?_eq_getElem hi] at this
     simp at this
     omega) (by omega)
    simp only [shapeB,hr,h8,hs];simp
   ·simp [shapeB,hr]
  intro i hi
  have h4 : wr .i64 ((i:Int) + 1) = ((i + 1:Nat):Int):=(wr_id (by omega)).trans (by omega)
  simp only [ilt_iff.2 (show (i:Int) < l.length by omega),cond_true,Int.toNat_natCast,h4]
  rw [gd_pos ⟨by omega,by omega⟩]
  simp only [imp_self,gd_true]
  by_cases h1 : l.getD i 0 < 1
  ·have : rowOk l i = false:=by simp only [rowOk,decide_eq_false (show ¬ 1 ≤ l.getD i 0 by omega),Bool.false_and]
   rw [this]
   generalize l.getD i 0 = v at h1
   simp [ilt_iff.2 h1,gd_true]
  by_cases h2 : 8 < l.getD i 0
  ·have : rowOk l i = false:=by simp only [rowOk,decide_eq_false (show ¬ l.getD i 0 ≤ 8 by omega),Bool.false_and,Bool.and_false]
   rw [this]
   generalize l.getD i 0 = v at h1 h2
   simp [ilt_false.2 (show (1:Int) ≤ v by omega),ilt_iff.2 h2,gd_true]
  cases i with
  | zero =>
   have : rowOk l 0 = true:=rowOk_iff.2 ⟨by omega,Or.inl rfl⟩
   rw [this]
   have h3 : ilt (0:Int) ((0:Nat):Int) = false:=by decide
   generalize l.getD 0 0 = v at h1 h2
   simp only [ilt_false.2 (show (1:Int) ≤ v by omega),ilt_false.2 (show v ≤ 8 by omega),h3]
   simp [gd_true]
  | succ i =>
   have h3 : ilt (0:Int) ((i + 1:Nat):Int) = true:=ilt_iff.2 (by omega)
   have h5 : wr .i64 (((i + 1:Nat):Int) - 1) = (i:Int):=(wr_id (by omega)).trans (by omega)
   simp only [ilt_false.2 (show (1:Int) ≤ l.getD (i + 1) 0 by omega),ilt_false.2 (show l.getD (i + 1) 0 ≤ 8 by omega),h3,h5,Int.toNat_natCast,gd_true,cond_true,cond_false,Bool.not_false,Bool.and_self,imp_self,true_and,true_implies]
   rw [gd_pos ⟨by omega,by omega⟩]
   by_cases h6 : l.getD i 0 < l.getD (i + 1) 0
   ·have : rowOk l (i + 1) = false:=Bool.eq_false_iff.2 (fun h=>by have:=(rowOk_iff.1 h).2;simp only [Nat.add_sub_cancel] at this;omega)
    rw [cond_t (ilt_iff.2 h6),this];rfl
   ·have : rowOk l (i + 1) = true:=rowOk_iff.2 ⟨by omega,Or.inr (by simp only [Nat.add_sub_cancel];omega)⟩
    rw [cond_f (ilt_false.2 (by omega)),this];rfl
 ·rw [cond_t (ilt_iff.2 (by omega))]
  simp [shapeB,h8]
set_option maxRecDepth 100000 in
theorem ok66 : con66.Ok Try.prog:=Con.of_goal mixed (okC ok86 okN) con66 goal66
theorem goal108 : con108.goal Try.prog (spOf []) g108_sh [] lm30:=by
 have e : (∀ (x:Int),g108 x = some (badX x,())) = con108.goal Try.prog (spOf []) g108_sh [] lm30:=by kernel_rfl
 rw [← e]
 intro x
 unfold g108 badX ilt
 by_cases h : x < 0
 ·simp [gd_true,h]
 ·simp [gd_true,h]
set_option maxRecDepth 100000 in
theorem ok108 : con108.Ok Try.prog:=Con.of_goal mixed okN con108 goal108
theorem goal131 : con131.goal Try.prog (spOf [con108]) g131_sh [] lm30:=by
 have e : (∀ (l:List Int),l.length ≤ 1000 → g131 l = some (ixBad l 0,())) = con131.goal Try.prog (spOf [con108]) g131_sh [] lm30:=by kernel_rfl
 rw [← e]
 intro l hl
 unfold g131
 have key : ∀ (c i:Nat),i + c = l.length → (fun (y : Option (Int × Unit))=>y = some (ixBad (l.drop i) i,())) (whileO (fun (d1 : Int × Unit)=>bif ilt d1.1 (↑(List.length l):Int) then gd ((0:Int) ≤ d1.1 ∧ d1.1 < (↑(List.length l):Int)) (bif badX (List.getD l (Int.toNat d1.1) (0:Int)) then some (Lp.out ((d1.1,()) : Int × Unit)) else some (Lp.go ((wr .i64 (d1.1 + (1:Int)),()) : Int × Unit))) else some (Lp.out (((-1:Int),()) : Int × Unit))) ((i:Int),())):=by
  intro c
  induction c with
  | zero =>
   intro i hi
   have : i = l.length:=by omega
   subst this
   refine whileO_out ?_
   simp [ilt,ixBad]
  | succ c ih =>
   intro i hi
   have hlt : i < l.length:=by omega
   have h1 : ilt (i:Int) (l.length:Int) = true:=ilt_iff.2 (by omega)
   have h4 : wr .i64 ((i:Int) + 1) = ((i + 1:Nat):Int):=(wr_id (by omega)).trans (by omega)
   have h5 : l.getD i 0 = l[i]:=by simp [List.getD_eq_getElem?_getD,List.getElem?_eq_getElem hlt]
   rw [List.drop_eq_getElem_cons hlt]
   cases hb : badX l[i] with
   | true =>
    refine whileO_out ?_
    simp only [h1,cond_true,Int.toNat_natCast,h5,hb,ixBad,if_true]
    rw [gd_pos ⟨by omega,by omega⟩]
   | false =>
    refine (whileO_go (s':=(((i + 1:Nat):Int),())) ?_).trans ?_
    ·simp only [h1,cond_true,Int.toNat_natCast,h5,hb,cond_false,h4]
     rw [gd_pos ⟨by omega,by omega⟩]
    ·have:=ih (i + 1) (by omega)
     simp only [ixBad,hb]
     simpa using this
 exact key l.length 0 (by omega)
set_option maxRecDepth 100000 in
theorem ok131 : con131.Ok Try.prog:=Con.of_goal mixed (okC ok108 okN) con131 goal131
theorem ixBad_pos : ∀ {l : List Int} {i : Int},0 ≤ i → (0 ≤ ixBad l i ↔ l.any badX = true)
 | [],i,h=>by simp [ixBad]
 | x :: l,i,h=>by
  unfold ixBad
  cases hb : badX x with
  | true=>simp [hb,h]
  | false=>simp only [List.any_cons,hb,Bool.false_or];exact ixBad_pos (by omega)
theorem goal107 : con107.goal Try.prog (spOf [con131]) g107_sh [] lm30:=by
 have e : (∀ (l:List Int),l.length ≤ 1000 → g107 l = some (l.any badX,())) = con107.goal Try.prog (spOf [con131]) g107_sh [] lm30:=by kernel_rfl
 rw [← e]
 intro l hl
 unfold g107
 rw [gd_pos hl]
 congr 2
 rw [Bool.eq_iff_iff,ile_iff]
 exact ixBad_pos (by omega)
set_option maxRecDepth 100000 in
theorem ok107 : con107.Ok Try.prog:=Con.of_goal mixed (okC ok131 okN) con107 goal107
theorem badX_iff {x : Int} : badX x = false ↔ 0 ≤ x ∧ x ≤ 8:=by unfold badX;simp
theorem goal67 : con67.goal Try.prog (spOf [con107,con86]) g67_sh [] lm30:=by
 have e : (∀ (l:List Int),l.length ≤ 1000 → g67 l = some (contB l,())) = con67.goal Try.prog (spOf [con107,con86]) g67_sh [] lm30:=by kernel_rfl
 rw [← e]
 intro l hl
 unfold g67 contB
 have hany : (!l.any badX) = l.all (fun x=>decide (0 ≤ x) && decide (x ≤ 8)):=by
  rw [Bool.eq_iff_iff]
  simp only [Bool.not_eq_true',List.any_eq_false,List.all_eq_true,Bool.and_eq_true,decide_eq_true_eq]
  exact ⟨fun h x hx=>badX_iff.1 (Bool.eq_false_iff.2 (h x hx)),fun h x hx=>Bool.eq_false_iff.1 (badX_iff.2 (h x hx))⟩
 have hle : ile (l.length:Int) 8 = decide (l.length ≤ 8):=by rw [Bool.eq_iff_iff,ile_iff,decide_eq_true_iff];omega
 rw [hle,hany]
 simp only [imp_self,gd_true,hl,and_true]
 by_cases h1 : l.all (fun x=>decide (0 ≤ x) && decide (x ≤ 8)) = true
 ·have hs : boxW l = l.sum:=boxW_sum (fun x hx=>by simpa using List.all_eq_true.1 h1 x hx) (by omega)
  rw [h1,hs]
  cases decide (l.length ≤ 8) <;> simp [gd_true,ile]
 ·rw [Bool.eq_false_iff.2 h1]
  cases decide (l.length ≤ 8) <;> simp [gd_true]
set_option maxRecDepth 100000 in
theorem ok67 : con67.Ok Try.prog:=Con.of_goal mixed (okC ok107 (okC ok86 okN)) con67 goal67
end Go.Schur
namespace Go.Schur
open Go Go.Ab Go.Proofs
theorem catX_len {A : Type} {g : Int → List A} {B : Nat} : ∀ (c:Nat) (x:Int),(∀ y,x ≤ y → y < x + c → (g y).length ≤ B) → (catX g c x).length ≤ c * B
 | 0,x,h=>by simp [catX]
 | c + 1,x,h=>by
  have h1:=h x (by omega) (by omega)
  have h2:=catX_len c (x + 1) (fun y h1 h2=>h y (by omega) (by omega))
  rw [catX,List.length_append,Nat.succ_mul]
  omega
theorem catX_nil {A : Type} {g : Int → List A} : ∀ (c:Nat) (x:Int),(∀ y,x ≤ y → y < x + c → g y = []) → catX g c x = []
 | 0,x,h=>rfl
 | c + 1,x,h=>by rw [catX,h x (by omega) (by omega),catX_nil c (x + 1) (fun y h1 h2=>h y (by omega) (by omega))];rfl
def sumN (l:List Int) : Nat:=(l.map Int.toNat).sum
theorem sumN_set : ∀ {l : List Int} {p : Nat},p < l.length → 0 < l.getD p 0 → sumN (l.set p (l.getD p 0 - 1)) + 1 = sumN l
 | [],p,h,_=>by simp at h
 | a :: l,0,h,h1=>by simp [sumN] at h1 ⊢;omega
 | a :: l,p + 1,h,h1=>by
  have:=sumN_set (l:=l) (p:=p) (by simpa using h) (by simpa using h1)
  simp only [sumN,List.set_cons_succ,List.map_cons,List.sum_cons,List.getD_cons_succ] at this ⊢
  omega
theorem leastF_pos {inner : List Int} {rows : List (List Int)} : 1 ≤ leastF inner rows:=by unfold leastF;split <;> omega
theorem fil_len {inner outer : List Int} {most : Int} (hm : most ≤ 8) : ∀ (n:Nat) (left:List Int) (rows:List (List Int)),(left.length:Int) = most → (∀ x ∈ left,0 ≤ x) → (fil inner outer most false n left rows).length ≤ 8 ^ sumN left
 | 0,left,rows,hl,h=>by simp [fil]
 | n + 1,left,rows,hl,h=>by
  have h1 : 1 ≤ 8 ^ sumN left:=Nat.one_le_pow _ _ (by omega)
  rw [fil]
  split
  ·split
   ·simpa using h1
   ·exact fil_len hm n left _ hl h
  ·have hp:=leastF_pos (inner:=inner) (rows:=rows)
   generalize leastF inner rows = x0 at hp
   have hz0 : ∀ q,left.length ≤ q → left.getD q 0 = 0:=fun q hq=>by simp [List.getD_eq_getElem?_getD,List.getElem?_eq_none hq]
   have hge : ∀ q (hq : q < left.length),0 ≤ left.getD q 0:=fun q hq=>by
    rw [List.getD_eq_getElem?_getD,List.getElem?_eq_getElem hq];exact h _ (List.getElem_mem hq)
   by_cases hs : sumN left = 0
   ·rw [catX_nil]
    ·simp
    intro y h2 h3
    unfold useX
    generalize (y - 1).toNat = q
    have hz : left.getD q 0 = 0:=by
     by_cases hlt : q < left.length
     ·have:=hge q hlt
      by_cases h0 : 0 < left.getD q 0
      ·have:=sumN_set hlt h0;omega
      ·omega
     ·exact hz0 q (by omega)
    rw [if_neg (by simp),if_pos hz]
   ·obtain ⟨k,hk⟩ : ∃ k,sumN left = k + 1:=⟨sumN left - 1,by omega⟩
    refine Nat.le_trans (catX_len (B:=8 ^ k) _ _ fun y h2 h3=>?_) ?_
    ·unfold useX
     generalize (y - 1).toNat = q
     rw [if_neg (by simp)]
     split
     ·simp
     ·rename_i hne
      by_cases hlt : q < left.length
      ·have hnn:=hge q hlt
       have h0 : 0 < left.getD q 0:=by omega
       have h4:=sumN_set hlt h0
       have e2 : sumN (left.set q (left.getD q 0 - 1)) = k:=by omega
       rw [← e2]
       refine fil_len hm n _ _ (by simpa using hl) fun z hz=>?_
       rcases List.mem_or_eq_of_mem_set hz with h5 | h5
       ·exact h z h5
       ·omega
      ·exact absurd (hz0 q (by omega)) hne
    ·rw [hk,Nat.pow_succ,Nat.mul_comm]
     exact Nat.mul_le_mul_left _ (by omega)
theorem okIn.pre {inner outer m : List Int} (h : okIn inner outer m) : preM 81 inner outer m m.length false [] where
 il:=h.il
 ol:=h.ol
 i0:=h.i0
 o8:=h.o8
 od:=h.od
 ins:=h.ins
 len:=by simp
 fl:=fun i hi=>by simp at hi
 la:=fun i hi=>by simp at hi
 ent:=fun r hr=>by simp at hr
 mo:=by have:=h.ml;omega
 lf:=fun _=>⟨rfl,h.m8⟩
 mu:=by have:=h.ol;simp;omega
theorem goal68 : con68.goal Try.prog (spS [con77 81] [con86]) g68_sh [18] lm30:=by
 have e : (∀ (inner outer m:List Int) (out : List (List (List Int))),(okIn inner outer m ∧ out.length + (eachF inner outer m).length ≤ 500000000) → g68 inner outer m out = some (out ++ eachF inner outer m,())) = con68.goal Try.prog (spS [con77 81] [con86]) g68_sh [18] lm30:=by kernel_rfl
 rw [← e]
 rintro inner outer m out ⟨h,hb⟩
 have h1:=h.il
 have h2:=h.ol
 have h3:=h.ml
 unfold g68
 rw [gd_pos (by omega),gd_pos (by omega),gd_pos (by omega)]
 unfold eachF at hb ⊢
 by_cases hs : wr .i64 (boxW outer - boxW inner) = boxW m
 ·rw [if_pos hs] at hb ⊢
  rw [ieq_iff.2 hs]
  simp only [Bool.not_true,cond_false]
  rw [gd_pos (by omega),gd_pos (by omega),gd_pos (by omega)]
  simp only [gd_true]
  rw [gd_pos ⟨h.pre,hb⟩]
 ·rw [if_neg hs,ieq_false.2 hs]
  simp [gd_true]
set_option maxRecDepth 100000 in
theorem ok68 : con68.Ok Try.prog:=SCon.of_goal mixed (okC ok86 okN) (okS (ok77 81) okS0) con68 goal68
theorem contB_iff {m : List Int} : contB m = true ↔ m.length ≤ 8 ∧ (∀ x ∈ m,0 ≤ x ∧ x ≤ 8) ∧ m.sum ≤ 8:=by
 simp [contB,and_assoc]
theorem shapeB_iff {l : List Int} : shapeB l = true ↔ l.length ≤ 8 ∧ (∀ i,i < l.length → rowOk l i = true) ∧ l.sum ≤ 8:=by
 simp [shapeB,and_assoc]
theorem rowF_nat {l : List Int} {i : Nat} : rowF l (i:Int) = l.getD i 0:=by
 have : ¬ (i:Int) < 0:=by omega
 simp [rowF,this]
theorem shape_row {l : List Int} (h : shapeB l = true) (i:Nat) : 0 ≤ rowF l i ∧ rowF l i ≤ 8 ∧ rowF l (i + 1:Nat) ≤ rowF l i:=by
 have h:=(shapeB_iff.1 h).2.1
 have hget : ∀ i,l.length ≤ i → l.getD i 0 = 0:=fun i hi=>by simp [List.getD_eq_getElem?_getD,List.getElem?_eq_none hi]
 rw [rowF_nat,rowF_nat]
 have h1 : 0 ≤ l.getD i 0 ∧ l.getD i 0 ≤ 8:=by
  by_cases hi : i < l.length
  ·have:=(rowOk_iff.1 (h i hi)).1;omega
  ·rw [hget i (by omega)];omega
 refine ⟨h1.1,h1.2,?_⟩
 by_cases hi : i + 1 < l.length
 ·have:=(rowOk_iff.1 (h (i + 1) hi)).2
  simpa using this
 ·rw [hget (i + 1) (by omega)];omega
theorem shape_mem {l : List Int} (h : shapeB l = true) : ∀ x ∈ l,1 ≤ x ∧ x ≤ 8:=fun x hx=>by
 obtain ⟨i,hi,rfl⟩:=List.getElem_of_mem hx
 have:=(rowOk_iff.1 ((shapeB_iff.1 h).2.1 i hi)).1
 rw [List.getD_eq_getElem?_getD,List.getElem?_eq_getElem hi] at this
 simpa using this
theorem okIn_of {a l m : List Int} (ha : shapeB a = true) (h : shapeB l = true) (hm : contB m = true) (hin : ∀ i : Nat,rowF a i ≤ rowF l i) : okIn a l m where
 il:=(shapeB_iff.1 ha).1
 ol:=(shapeB_iff.1 h).1
 i0:=fun i=>(shape_row ha i).1
 o8:=fun i=>(shape_row h i).2.1
 od:=fun i=>(shape_row h i).2.2
 ins:=hin
 ml:=(contB_iff.1 hm).1
 m8:=(contB_iff.1 hm).2.1
theorem rowF_nil {i : Int} : rowF [] i = 0:=by simp [rowF]
theorem okIn_nil {l m : List Int} (h : shapeB l = true) (hm : contB m = true) : okIn [] l m:=okIn_of (by decide) h hm (fun i=>by rw [rowF_nil];exact (shape_row h i).1)
theorem sumN_eq : ∀ {m : List Int},(∀ x ∈ m,0 ≤ x) → (sumN m:Int) = m.sum
 | [],_=>rfl
 | a :: m,h=>by
  have h1:=sumN_eq (m:=m) (fun x hx=>h x (by simp [hx]))
  have h2:=h a (by simp)
  simp only [sumN,List.map_cons,List.sum_cons] at h1 ⊢
  omega
theorem fil_bd {inner outer m : List Int} (hm : contB m = true) : (fil inner outer m.length false 81 m []).length ≤ 16777216:=by
 obtain ⟨h1,h2,h3⟩:=contB_iff.1 hm
 refine Nat.le_trans (fil_len (by omega) 81 m [] rfl (fun x hx=>(h2 x hx).1)) ?_
 have:=sumN_eq (fun x hx=>(h2 x hx).1)
 exact Nat.le_trans (Nat.pow_le_pow_right (by omega) (show sumN m ≤ 8 by omega)) (by decide)
theorem each_bd {inner outer m : List Int} (hm : contB m = true) : (eachF inner outer m).length ≤ 16777216:=by
 unfold eachF
 split
 ·exact fil_bd hm
 ·simp
theorem goal19 : con19.goal Try.prog (spS [con68] [con66,con67]) g19_sh [] lm30:=by
 have e : (∀ (l m:List Int),(l.length ≤ 1000 ∧ m.length ≤ 1000) → g19 l m = some (fillF l m)) = con19.goal Try.prog (spS [con68] [con66,con67]) g19_sh [] lm30:=by kernel_rfl
 rw [← e]
 rintro l m ⟨h1,h2⟩
 unfold g19 fillF
 rw [gd_pos h1]
 cases hs : shapeB l with
 | false=>simp [gd_true]
 | true =>
  cases hm : contB m with
  | false=>simp [gd_true,h2]
  | true =>
   have:=each_bd (inner:=[]) (outer:=l) hm
   have hp : okIn [] l m ∧ 0 + (eachF [] l m).length ≤ 500000000:=⟨okIn_nil hs hm,by omega⟩
   simp [gd_true,h2,hp.1]
   rw [gd_pos (by omega)]
set_option maxRecDepth 100000 in
theorem ok19 : con19.Ok Try.prog:=Con.of_goalS mixed (okC ok66 (okC ok67 okN)) (okS ok68 okS0) con19 goal19
end Go.Schur
