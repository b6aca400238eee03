/- The law Arcs: contracts. -/
import Derived.Test.YtffapeomfjfedaaXH
import Derived.Test.YtffapeomfjfedaaSS
import Derived.Test.YtffapeomfjfedaaXC
import Derived.Test.YtffapeomfjfedaaXF
set_option linter.unusedVariables false
set_option linter.unusedSimpArgs false
namespace Go.Arcs
open Go Go.Ab Go.Proofs
noncomputable def arcF (p:Int) (l:List Int) : Bool:=(List.range l.length).all fun i=>(List.range i).all fun j=>(List.range j).all fun h=>!strF p (l.getD h 0) (l.getD j 0) (l.getD i 0)
def setP (p:Int) (l:List Int) : Prop:=l.all (inPt p) = true ∧ l.length ≤ 60
noncomputable def con104 : Con:=mkC 104 [.d (.ptr Plane),.d LI] [.bool] (fun (k : PlaneD) (l:List Int)=>[isPl k,setP k.1 l]) (fun (k : PlaneD) (l:List Int)=>(arcF k.1 l,()))
noncomputable def g104_l0 (x0 : Int × List (Int × Int × Int × Unit) × List ((Int × Int × Int × Unit) × Int) × Unit) (x1:List Int) (d2 d3 d4 : Int × Unit) : Option (Lp (Int × Unit) (Lp (Int × Unit) (Lp (Int × Unit) (Bool × Unit)))):=bif ilt d4.1 d3.1 then gd (0 ≤ d4.1 ∧ d4.1 < (↑(List.length x1):Int)) (gd (0 ≤ d3.1 ∧ d3.1 < (↑(List.length x1):Int)) (gd (0 ≤ d2.1 ∧ d2.1 < (↑(List.length x1):Int)) (gd (isPl x0) (gd (inPt x0.1 (List.getD x1 (Int.toNat d4.1) 0) = true) (gd (inPt x0.1 (List.getD x1 (Int.toNat d3.1) 0) = true) (gd (inPt x0.1 (List.getD x1 (Int.toNat d2.1) 0) = true) (bif strF x0.1 (List.getD x1 (Int.toNat d4.1) 0) (List.getD x1 (Int.toNat d3.1) 0) (List.getD x1 (Int.toNat d2.1) 0) then some (Lp.out (Lp.out (Lp.out ((false,()) : Bool × Unit)))) else some (Lp.go ((wr .i64 (d4.1 + 1),()) : Int × Unit))))))))) else some (Lp.out (Lp.go ((wr .i64 (d3.1 + 1),()) : Int × Unit)))
noncomputable def g104_l1 (x0 : Int × List (Int × Int × Int × Unit) × List ((Int × Int × Int × Unit) × Int) × Unit) (x1:List Int) (d2 d3 : Int × Unit) : Option (Lp (Int × Unit) (Lp (Int × Unit) (Bool × Unit))):=bif ilt d3.1 d2.1 then whileO (g104_l0 x0 x1 d2 d3) ((0,()) : Int × Unit) else some (Lp.out (Lp.go ((wr .i64 (d2.1 + 1),()) : Int × Unit)))
noncomputable def g104 (x0 : Int × List (Int × Int × Int × Unit) × List ((Int × Int × Int × Unit) × Int) × Unit) (x1:List Int) : Option (Bool × Unit):=whileO (fun (d2 : Int × Unit)=>bif ilt d2.1 (↑(List.length x1):Int) then whileO (g104_l1 x0 x1 d2) ((0,()) : Int × Unit) else some (Lp.out ((true,()) : Bool × Unit))) ((0,()) : Int × Unit)
noncomputable def g104_sh : List LSh:=LSh.mk (((10,TV.v (Ty.int IntKind.i64)) : Nat × TV) :: ([] : List (Nat × TV))) ([] : List TB) :: LSh.mk (((14,TV.v (Ty.int IntKind.i64)) : Nat × TV) :: ([] : List (Nat × TV))) ([] : List TB) :: LSh.mk (((18,TV.v (Ty.int IntKind.i64)) : Nat × TV) :: ([] : List (Nat × TV))) ([] : List TB) :: ([] : List LSh)
noncomputable def arcX (p:Int) (l:List Int) : Bool × Int × Unit:=if okSet p l = true then (arcF p l,0,()) else (false,2,())
noncomputable def con55 : Con:=mkC 55 [.d I64,.d LI] [.bool,I64] (fun (p:Int) (l:List Int)=>[small l]) (fun (p:Int) (l:List Int)=>arcX p l)
noncomputable def g55 (x0:Int) (x1:List Int) : Option (Bool × Int × Unit):=gd (small x1) (bif !(setF x0 x1).2.1 then some ((false,2,()) : Bool × Int × Unit) else gd (Option.isSome (setF x0 x1).1 = true) (gd (isPl (Option.getD (setF x0 x1).1 ((0,([] : List (Int × Int × Int × Unit)),([] : List ((Int × Int × Int × Unit) × Int)),()) : Int × List (Int × Int × Int × Unit) × List ((Int × Int × Int × Unit) × Int) × Unit))) (gd (setP (Option.getD (setF x0 x1).1 ((0,([] : List (Int × Int × Int × Unit)),([] : List ((Int × Int × Int × Unit) × Int)),()) : Int × List (Int × Int × Int × Unit) × List ((Int × Int × Int × Unit) × Int) × Unit)).1 x1) (some ((arcF (Option.getD (setF x0 x1).1 ((0,([] : List (Int × Int × Int × Unit)),([] : List ((Int × Int × Int × Unit) × Int)),()) : Int × List (Int × Int × Int × Unit) × List ((Int × Int × Int × Unit) × Int) × Unit)).1 x1,0,()) : Bool × Int × Unit)))))
noncomputable def g55_sh : List LSh:=([] : List LSh)
noncomputable def mayA (p:Int) (l:List Int) (x:Int) : Bool:=(List.range l.length).all fun i=>!ieq (l.getD i 0) x && (List.range i).all fun j=>!strF p (l.getD i 0) (l.getD j 0) x
noncomputable def frF (p:Int) (l:List Int) : List Int:=flt (fun (x:Nat)=>mayA p l (x:Int)) (ptsC p).length
noncomputable def con38s : SCon:=mkS 38 [.v LI] [] [.slf 0 1] [.arr I64 true] (fun (l:List Int)=>[l.length ≤ 100000]) (fun (l:List Int)=>(l,()))
noncomputable def g38s (x0:List Int) : Option (List Int × Unit):=Option.map id (eqO (List.length x0 = 0) (gd ((0:Nat) = 0) (some ((([]:List Int),()) : List Int × Unit))) (gd ((0:Nat) ≤ 0) (gd ((0 + List.length x0) * (8:Nat) ≤ 1099511627776) (gd (0 + List.length x0 = List.length x0) (some ((x0,()) : List Int × Unit))))))
noncomputable def g38s_sh : List LSh:=([] : List LSh)
def plN : PlaneD:=(0,[],[],())
noncomputable def con108s : SCon:=mkS 108 [.v (.optr Plane),.slf 0 1] [AI] [.v LI] [AI] (fun (k : Option PlaneD) (l:List Int)=>[k.isSome = true,isPl (k.getD plN),setP (k.getD plN).1 l]) (fun (k : Option PlaneD) (l:List Int)=>(frF (k.getD plN).1 l,l,()))
noncomputable def g108s_l0 (x0 : Option (Int × List (Int × Int × Int × Unit) × List ((Int × Int × Int × Unit) × Int) × Unit)) (d2 d3 : Int × List Int × List Int × Unit) (d4 : Int × Int × List Int × List Int × Unit) : Option (Lp (Int × Int × List Int × List Int × Unit) (Lp (Int × List Int × List Int × Unit) (Lp (Int × List Int × List Int × Unit) (List Int × List Int × Unit)))):=bif ilt d4.2.1 (↑(Int.toNat d3.1):Int) then gd (0 ≤ d4.2.1 ∧ d4.2.1 < (↑(Int.toNat d4.1):Int)) (gd (0 + Int.toNat d4.2.1 < List.length d4.2.2.1) (gd (Option.isSome x0 = true) (gd (isPl (Option.getD x0 ((0,([] : List (Int × Int × Int × Unit)),([] : List ((Int × Int × Int × Unit) × Int)),()) : Int × List (Int × Int × Int × Unit) × List ((Int × Int × Int × Unit) × Int) × Unit))) (gd (inPt (Option.getD x0 ((0,([] : List (Int × Int × Int × Unit)),([] : List ((Int × Int × Int × Unit) × Int)),()) : Int × List (Int × Int × Int × Unit) × List ((Int × Int × Int × Unit) × Int) × Unit)).1 (List.getD d3.2.1 (0 + Int.toNat d3.1) 0) = true) (gd (inPt (Option.getD x0 ((0,([] : List (Int × Int × Int × Unit)),([] : List ((Int × Int × Int × Unit) × Int)),()) : Int × List (Int × Int × Int × Unit) × List ((Int × Int × Int × Unit) × Int) × Unit)).1 (List.getD d4.2.2.1 (0 + Int.toNat d4.2.1) 0) = true) (gd (inPt (Option.getD x0 ((0,([] : List (Int × Int × Int × Unit)),([] : List ((Int × Int × Int × Unit) × Int)),()) : Int × List (Int × Int × Int × Unit) × List ((Int × Int × Int × Unit) × Int) × Unit)).1 d2.1 = true) (bif strF (Option.getD x0 ((0,([] : List (Int × Int × Int × Unit)),([] : List ((Int × Int × Int × Unit) × Int)),()) : Int × List (Int × Int × Int × Unit) × List ((Int × Int × Int × Unit) × Int) × Unit)).1 (List.getD d3.2.1 (0 + Int.toNat d3.1) 0) (List.getD d4.2.2.1 (0 + Int.toNat d4.2.1) 0) d2.1 then gd (List.length d4.2.2.1 = List.length d4.2.2.1) (gd (List.length d4.2.2.2.1 = List.length d4.2.2.2.1) (some (Lp.out (Lp.out (Lp.go ((wr .i64 (d2.1 + 1),d4.2.2.1,d4.2.2.2.1,()) : Int × List Int × List Int × Unit)))))) else gd (List.length d4.2.2.1 = List.length d4.2.2.1) (gd (List.length d4.2.2.2.1 = List.length d4.2.2.2.1) (gd (List.length d4.2.2.1 = List.length d4.2.2.1) (some (Lp.go (((↑(Int.toNat d4.1):Int),wr .i64 (d4.2.1 + 1),d4.2.2.1,d4.2.2.2.1,()) : Int × Int × List Int × List Int × Unit)))))))))))) else gd (List.length d4.2.2.1 = List.length d4.2.2.1) (gd (List.length d4.2.2.2.1 = List.length d4.2.2.2.1) (gd (List.length d4.2.2.1 = List.length d4.2.2.1) (some (Lp.out (Lp.go ((wr .i64 (d3.1 + 1),d4.2.2.1,d4.2.2.2.1,()) : Int × List Int × List Int × Unit))))))
noncomputable def g108s_l1 (x0 : Option (Int × List (Int × Int × Int × Unit) × List ((Int × Int × Int × Unit) × Int) × Unit)) (d2 d3 : Int × List Int × List Int × Unit) : Option (Lp (Int × List Int × List Int × Unit) (Lp (Int × List Int × List Int × Unit) (List Int × List Int × Unit))):=bif ilt d3.1 (↑(List.length d2.2.1):Int) then gd (0 ≤ d3.1 ∧ d3.1 < (↑(List.length d3.2.1):Int)) (gd (0 + Int.toNat d3.1 < List.length d3.2.1) (bif ieq (List.getD d3.2.1 (0 + Int.toNat d3.1) 0) d2.1 then gd (List.length d3.2.1 = List.length d3.2.1) (gd (List.length d3.2.2.1 = List.length d3.2.2.1) (some (Lp.out (Lp.go ((wr .i64 (d2.1 + 1),d3.2.1,d3.2.2.1,()) : Int × List Int × List Int × Unit))))) else gd (0 ≤ d3.1 ∧ d3.1 ≤ (↑(List.length d3.2.1):Int)) (gd (List.length d3.2.1 = List.length d3.2.1) (gd (List.length d3.2.2.1 = List.length d3.2.2.1) (gd (List.length d3.2.1 = List.length d3.2.1) (whileO (g108s_l0 x0 d2 d3) (((↑(Int.toNat d3.1):Int),0,d3.2.1,d3.2.2.1,()) : Int × Int × List Int × List Int × Unit))))))) else gd (List.length d3.2.2.1 ≤ List.length d3.2.2.1) (gd ((List.length d3.2.2.1 + 1) * (8:Nat) ≤ 1099511627776) (gd (List.length d3.2.1 = List.length d3.2.1) (gd (List.length d3.2.2.1 + 1 = List.length (List.take (List.length d3.2.2.1) d3.2.2.1 ++ d2.1 :: ([]:List Int))) (some (Lp.out (Lp.go ((wr .i64 (d2.1 + 1),d3.2.1,List.take (List.length d3.2.2.1) d3.2.2.1 ++ d2.1 :: ([]:List Int),()) : Int × List Int × List Int × Unit)))))))
noncomputable def g108s (x0 : Option (Int × List (Int × Int × Int × Unit) × List ((Int × Int × Int × Unit) × Int) × Unit)) (x1:List Int) : Option (List Int × List Int × Unit):=gd (Option.isSome x0 = true) (gd (List.length x1 = List.length x1) (gd ((0:Nat) = 0) (whileO (fun (d2 : Int × List Int × List Int × Unit)=>bif ilt d2.1 (↑(List.length (Option.getD x0 ((0,([] : List (Int × Int × Int × Unit)),([] : List ((Int × Int × Int × Unit) × Int)),()) : Int × List (Int × Int × Int × Unit) × List ((Int × Int × Int × Unit) × Int) × Unit)).2.1):Int) then gd (List.length d2.2.1 = List.length d2.2.1) (gd (List.length d2.2.2.1 = List.length d2.2.2.1) (gd (List.length d2.2.1 = List.length d2.2.1) (whileO (g108s_l1 x0 d2) ((0,d2.2.1,d2.2.2.1,()) : Int × List Int × List Int × Unit)))) else gd (0 + List.length d2.2.2.1 ≤ List.length d2.2.2.1) (some (Lp.out ((List.take (List.length d2.2.2.1) (List.drop 0 d2.2.2.1),d2.2.1,()) : List Int × List Int × Unit)))) ((0,x1,([]:List Int),()) : Int × List Int × List Int × Unit))))
noncomputable def g108s_sh : List LSh:=LSh.mk3 (((1,TV.slf (0) (1)) : Nat × TV) :: ((5,TV.slf (1) (1)) : Nat × TV) :: ((16,TV.v (Ty.int IntKind.i64)) : Nat × TV) :: ([] : List (Nat × TV))) (TB.arr (Ty.int IntKind.i64) true :: TB.arr (Ty.int IntKind.i64) true :: ([] : List TB)) (1) :: LSh.mk3 (((1,TV.slf (0) (1)) : Nat × TV) :: ((5,TV.slf (1) (1)) : Nat × TV) :: ((19,TV.slf (0) (1)) : Nat × TV) :: ((21,TV.v (Ty.int IntKind.i64)) : Nat × TV) :: ([] : List (Nat × TV))) (TB.arr (Ty.int IntKind.i64) true :: TB.arr (Ty.int IntKind.i64) true :: ([] : List TB)) (1) :: LSh.mk3 (((1,TV.slf (0) (1)) : Nat × TV) :: ((5,TV.slf (1) (1)) : Nat × TV) :: ((19,TV.slf (0) (1)) : Nat × TV) :: ((31,TV.sl (0) (1) (0)) : Nat × TV) :: ((33,TV.v (Ty.int IntKind.i64)) : Nat × TV) :: ([] : List (Nat × TV))) (TB.arr (Ty.int IntKind.i64) true :: TB.arr (Ty.int IntKind.i64) true :: ([] : List TB)) (1) :: ([] : List LSh)
def withL (l:List Int) (x:Int) : List Int:=l.filter (fun y=>ilt y x) ++ x :: l.filter (fun y=>ilt x y)
noncomputable def growA (f : List Int → List Int) : Nat → List Int → List Int
 | 0,l=>l
 | n + 1,l=>if (f l).length = 0 then l else growA f n (withL l ((f l).getD 0 0))
noncomputable def growX (p:Int) (l:List Int) : List Int × Int × Unit:=if okSet p l = true then (if arcF p l = true then (growA (frF p) 60 l,0,()) else ([],5,())) else ([],2,())
noncomputable def con62 : Con:=mkC 62 [.d I64,.d LI] [LI,I64] (fun (p:Int) (l:List Int)=>[small l]) (fun (p:Int) (l:List Int)=>growX p l)
noncomputable def g62 (x0:Int) (x1:List Int) : Option (List Int × Int × Unit):=gd (small x1) (bif !(setF x0 x1).2.1 then some ((([]:List Int),2,()) : List Int × Int × Unit) else gd (Option.isSome (setF x0 x1).1 = true) (gd (isPl (Option.getD (setF x0 x1).1 ((0,([] : List (Int × Int × Int × Unit)),([] : List ((Int × Int × Int × Unit) × Int)),()) : Int × List (Int × Int × Int × Unit) × List ((Int × Int × Int × Unit) × Int) × Unit))) (gd (setP (Option.getD (setF x0 x1).1 ((0,([] : List (Int × Int × Int × Unit)),([] : List ((Int × Int × Int × Unit) × Int)),()) : Int × List (Int × Int × Int × Unit) × List ((Int × Int × Int × Unit) × Int) × Unit)).1 x1) (bif !arcF (Option.getD (setF x0 x1).1 ((0,([] : List (Int × Int × Int × Unit)),([] : List ((Int × Int × Int × Unit) × Int)),()) : Int × List (Int × Int × Int × Unit) × List ((Int × Int × Int × Unit) × Int) × Unit)).1 x1 then some ((([]:List Int),5,()) : List Int × Int × Unit) else gd (List.length x1 ≤ 100000) (gd (List.length x1 = List.length x1) (gd (Option.isSome (setF x0 x1).1 = true) (gd (isPl (Option.getD (setF x0 x1).1 ((0,([] : List (Int × Int × Int × Unit)),([] : List ((Int × Int × Int × Unit) × Int)),()) : Int × List (Int × Int × Int × Unit) × List ((Int × Int × Int × Unit) × Int) × Unit))) (gd (setP (Option.getD (setF x0 x1).1 ((0,([] : List (Int × Int × Int × Unit)),([] : List ((Int × Int × Int × Unit) × Int)),()) : Int × List (Int × Int × Int × Unit) × List ((Int × Int × Int × Unit) × Int) × Unit)).1 x1) (gd (List.length x1 = List.length x1) (whileO (fun (d2 : List Int × List Int × Unit)=>bif ilt 0 (↑(List.length d2.1):Int) then gd ((0:Int) ≤ 0 ∧ 0 < (↑(List.length d2.1):Int)) (gd (List.length d2.2.1 ≤ List.length d2.2.1) (gd ((List.length d2.2.1 + 1) * (8:Nat) ≤ 1099511627776) (gd (List.length d2.2.1 + 1 = List.length (List.take (List.length d2.2.1) d2.2.1 ++ List.getD d2.1 0 0 :: ([]:List Int))) (gd (List.length (List.take (List.length d2.2.1) d2.2.1 ++ List.getD d2.1 0 0 :: ([]:List Int)) < 4611686018427387904) (gd (List.length d2.2.1 + 1 = List.length (sortL (List.take (List.length d2.2.1) d2.2.1 ++ List.getD d2.1 0 0 :: ([]:List Int)))) (gd (Option.isSome (setF x0 x1).1 = true) (gd (isPl (Option.getD (setF x0 x1).1 ((0,([] : List (Int × Int × Int × Unit)),([] : List ((Int × Int × Int × Unit) × Int)),()) : Int × List (Int × Int × Int × Unit) × List ((Int × Int × Int × Unit) × Int) × Unit))) (gd (setP (Option.getD (setF x0 x1).1 ((0,([] : List (Int × Int × Int × Unit)),([] : List ((Int × Int × Int × Unit) × Int)),()) : Int × List (Int × Int × Int × Unit) × List ((Int × Int × Int × Unit) × Int) × Unit)).1 (sortL (List.take (List.length d2.2.1) d2.2.1 ++ List.getD d2.1 0 0 :: ([]:List Int)))) (gd (List.length d2.2.1 + 1 = List.length (sortL (List.take (List.length d2.2.1) d2.2.1 ++ List.getD d2.1 0 0 :: ([]:List Int)))) (some (Lp.go ((frF (Option.getD (setF x0 x1).1 ((0,([] : List (Int × Int × Int × Unit)),([] : List ((Int × Int × Int × Unit) × Int)),()) : Int × List (Int × Int × Int × Unit) × List ((Int × Int × Int × Unit) × Int) × Unit)).1 (sortL (List.take (List.length d2.2.1) d2.2.1 ++ List.getD d2.1 0 0 :: ([]:List Int))),sortL (List.take (List.length d2.2.1) d2.2.1 ++ List.getD d2.1 0 0 :: ([]:List Int)),()) : List Int × List Int × Unit)))))))))))) else gd (0 + List.length d2.2.1 ≤ List.length d2.2.1) (some (Lp.out ((List.take (List.length d2.2.1) (List.drop 0 d2.2.1),0,()) : List Int × Int × Unit)))) ((frF (Option.getD (setF x0 x1).1 ((0,([] : List (Int × Int × Int × Unit)),([] : List ((Int × Int × Int × Unit) × Int)),()) : Int × List (Int × Int × Int × Unit) × List ((Int × Int × Int × Unit) × Int) × Unit)).1 x1,x1,()) : List Int × List Int × Unit)))))))))))
noncomputable def g62_sh : List LSh:=LSh.mk (((8,TV.slf (0) (1)) : Nat × TV) :: ((9,TV.v (Ty.slice (Ty.int IntKind.i64))) : Nat × TV) :: ([] : List (Nat × TV))) (TB.arr (Ty.int IntKind.i64) true :: ([] : List TB)) :: ([] : List LSh)
end Go.Arcs
namespace Go.Arcs
open Go Go.Ab Go.Proofs
section
variable {α : Type} {f : α → Bool} {d : α}
theorem cnt1 {l : List α} : 1 ≤ l.countP f ↔ ∃ i,i < l.length ∧ f (l.getD i d) = true:=by
 rw [show (1 ≤ l.countP f) = (0 < l.countP f) from rfl,List.countP_pos_iff]
 constructor
 ·rintro ⟨a,ha,hf⟩
  obtain ⟨i,hi,rfl⟩:=List.getElem_of_mem ha
  exact ⟨i,hi,by rw [gd_at hi];exact hf⟩
 ·rintro ⟨i,hi,hf⟩
  rw [gd_at hi] at hf
  exact ⟨_,List.getElem_mem hi,hf⟩
theorem cnt2 : ∀ {l : List α},2 ≤ l.countP f ↔ ∃ j i,j < i ∧ i < l.length ∧ f (l.getD j d) = true ∧ f (l.getD i d) = true
 | []=>by simp
 | x :: l=>by
  rw [List.countP_cons]
  constructor
  ·intro h
   by_cases hx : f x = true
   ·rw [if_pos hx] at h
    obtain ⟨i,h1,h2⟩:=(cnt1 (d:=d)).1 (show 1 ≤ l.countP f by omega)
    exact ⟨0,i + 1,by omega,by simpa using h1,hx,by simpa using h2⟩
   ·rw [if_neg hx] at h
    obtain ⟨j,i,h1,h2,h3,h4⟩:=(cnt2 (l:=l)).1 (by omega)
    exact ⟨j + 1,i + 1,by omega,by simpa using h2,by simpa using h3,by simpa using h4⟩
  ·rintro ⟨j,i,h1,h2,h3,h4⟩
   obtain ⟨i,rfl⟩ : ∃ k,i = k + 1:=⟨i - 1,by omega⟩
   rw [List.length_cons] at h2
   rw [List.getD_cons_succ] at h4
   cases j with
   | zero =>
    rw [List.getD_cons_zero] at h3
    rw [if_pos h3]
    have:=(cnt1 (f:=f) (d:=d) (l:=l)).2 ⟨i,by omega,h4⟩
    omega
   | succ j =>
    rw [List.getD_cons_succ] at h3
    have:=(cnt2 (l:=l)).2 ⟨j,i,by omega,by omega,h3,h4⟩
    omega
theorem cnt3 : ∀ {l : List α},3 ≤ l.countP f ↔ ∃ h j i,h < j ∧ j < i ∧ i < l.length ∧ f (l.getD h d) = true ∧ f (l.getD j d) = true ∧ f (l.getD i d) = true
 | []=>by simp
 | x :: l=>by
  rw [List.countP_cons]
  constructor
  ·intro h
   by_cases hx : f x = true
   ·rw [if_pos hx] at h
    obtain ⟨j,i,h1,h2,h3,h4⟩:=(cnt2 (d:=d)).1 (show 2 ≤ l.countP f by omega)
    exact ⟨0,j + 1,i + 1,by omega,by omega,by simpa using h2,hx,by simpa using h3,by simpa using h4⟩
   ·rw [if_neg hx] at h
    obtain ⟨k,j,i,h0,h1,h2,h3,h4,h5⟩:=(cnt3 (l:=l)).1 (by omega)
    exact ⟨k + 1,j + 1,i + 1,by omega,by omega,by simpa using h2,by simpa using h3,by simpa using h4,by simpa using h5⟩
  ·rintro ⟨k,j,i,h0,h1,h2,h3,h4,h5⟩
   obtain ⟨i,rfl⟩ : ∃ k,i = k + 1:=⟨i - 1,by omega⟩
   obtain ⟨j,rfl⟩ : ∃ k,j = k + 1:=⟨j - 1,by omega⟩
   rw [List.length_cons] at h2
   rw [List.getD_cons_succ] at h4 h5
   cases k with
   | zero =>
    rw [List.getD_cons_zero] at h3
    rw [if_pos h3]
    have:=(cnt2 (f:=f) (d:=d) (l:=l)).2 ⟨j,i,by omega,by omega,h4,h5⟩
    omega
   | succ k =>
    rw [List.getD_cons_succ] at h3
    have:=(cnt3 (l:=l)).2 ⟨k,j,i,by omega,by omega,by omega,h3,h4,h5⟩
    omega
end
section
variable {p : Int}
theorem range_at {n i : Nat} (h : i < n) : (List.range n).getD i 0 = i:=by
 rw [List.getD_eq_getElem?_getD,List.getElem?_range h];rfl
theorem line_one (hp : isP p) {x y b c : Nat} (hx : x < (ptsC p).length) (hy : y < (ptsC p).length) (hb : b < (ptsC p).length) (hc : c < (ptsC p).length) (hne : x ≠ y) (h1 : onF p x b = true) (h2 : onF p y b = true) (h3 : onF p x c = true) (h4 : onF p y c = true) : b = c:=by
 have h:=through_two hp hx hy hne
 rw [sumN_congr (g:=fun b=>ind (onF p x b && onF p y b)) fun b _=>by cases onF p x b <;> cases onF p y b <;> rfl,sumN_count] at h
 rcases Nat.lt_trichotomy b c with hlt | he | hlt
 ·have:=(cnt2 (f:=fun b : Nat=>onF p x b && onF p y b) (d:=0) (l:=List.range (ptsC p).length)).2 ⟨b,c,hlt,by simpa using hc,by rw [range_at hb,h1,h2];rfl,by rw [range_at hc,h3,h4];rfl⟩
  omega
 ·exact he
 ·have:=(cnt2 (f:=fun b : Nat=>onF p x b && onF p y b) (d:=0) (l:=List.range (ptsC p).length)).2 ⟨c,b,hlt,by simpa using hb,by rw [range_at hc,h3,h4];rfl,by rw [range_at hb,h1,h2];rfl⟩
  omega
theorem in_nat' (hp : isP p) {x : Int} (hx : inPt p x = true) : ∃ n : Nat,x = n ∧ n < (ptsC p).length:=by
 have h1:=inPt_iff.1 hx
 have:=pts_len p (isP_mem hp)
 exact ⟨x.toNat,by omega,by omega⟩
theorem str_iff (hp : isP p) {a b c : Int} (ha : inPt p a = true) (hb : inPt p b = true) (hc : inPt p c = true) (hab : a ≠ b) : strF p a b c = true ↔ ∃ k : Nat,k < (ptsC p).length ∧ onF p a k = true ∧ onF p b k = true ∧ onF p c k = true:=by
 rw [str_on hp ha hb hc hab,← thr_join hp ha hb hab]
 obtain ⟨j1,j2,j3⟩:=join_on hp ha hb hab
 obtain ⟨n,hn,hn2⟩:=in_nat' hp j1
 rw [hn] at j2 j3 ⊢
 constructor
 ·exact fun h=>⟨n,hn2,j2,j3,h⟩
 ·rintro ⟨k,k1,k2,k3,k4⟩
  obtain ⟨x,rfl,hx⟩:=in_nat' hp ha
  obtain ⟨y,rfl,hy⟩:=in_nat' hp hb
  have:=line_one hp hx hy hn2 k1 (fun e=>hab (by rw [e])) j2 j3 k2 k3
  rw [this];exact k4
theorem ris_pw : ∀ {l : List Int},ris l = true → l.Pairwise (· < ·)
 | [],_=>List.Pairwise.nil
 | x :: l,h=>by
  obtain ⟨h1,h2⟩:=ris_cons h
  exact List.Pairwise.cons h2 (ris_pw h1)
theorem pw_ris : ∀ {l : List Int},l.Pairwise (· < ·) → ris l = true
 | [],_=>rfl
 | [x],_=>rfl
 | x :: y :: l,h=>by
  obtain ⟨h1,h2⟩:=List.pairwise_cons.1 h
  have:=pw_ris h2
  simp only [ris,this,Bool.and_true,decide_eq_true_eq]
  exact h1 y (List.mem_cons_self ..)
theorem ris_at {l : List Int} (hr : ris l = true) {i j : Nat} (hj : j < i) (hi : i < l.length) : l.getD j 0 < l.getD i 0:=by
 rw [gd_at hi,gd_at (show j < l.length by omega)]
 exact List.pairwise_iff_getElem.1 (ris_pw hr) j i (by omega) hi hj
theorem all_at {q : Int → Bool} {l : List Int} (h : l.all q = true) {i : Nat} (hi : i < l.length) : q (l.getD i 0) = true:=by
 rw [gd_at hi];exact List.all_eq_true.1 h _ (List.getElem_mem hi)
variable {l : List Int}
theorem arc_iff (hp : isP p) (hl : l.all (inPt p) = true) (hr : ris l = true) : arcF p l = true ↔ ∀ b : Nat,b < (ptsC p).length → meetsF p l b ≤ 2:=by
 have e1 : arcF p l = true ↔ ∀ i j h,h < j → j < i → i < l.length → strF p (l.getD h 0) (l.getD j 0) (l.getD i 0) = false:=by
  unfold arcF
  simp only [List.all_eq_true,List.mem_range,Bool.not_eq_true']
  exact ⟨fun H i j h h1 h2 h3=>H i h3 j h2 h h1,fun H i h3 j h2 h h1=>H i j h h1 h2 h3⟩
 rw [e1]
 constructor
 ·intro H b hb
  rcases (show 2 < meetsF p l b ∨ meetsF p l b ≤ 2 by omega) with hlt | hle
  ·exfalso
   unfold meetsF at hlt
   obtain ⟨h,j,i,h1,h2,h3,h4,h5,h6⟩:=(cnt3 (f:=fun x=>onF p x b) (d:=(0:Int)) (l:=l)).1 (by omega)
   have:=H i j h h1 h2 h3
   rw [(str_iff hp (all_at hl (by omega)) (all_at hl (by omega)) (all_at hl h3) (by have:=ris_at hr h1 (by omega);omega)).2 ⟨b,hb,h4,h5,h6⟩] at this
   cases this
  ·exact hle
 ·intro H i j h h1 h2 h3
  rw [Bool.eq_false_iff]
  intro hs
  obtain ⟨b,b1,b2,b3,b4⟩:=(str_iff hp (all_at hl (by omega)) (all_at hl (by omega)) (all_at hl h3) (by have:=ris_at hr h1 (by omega);omega)).1 hs
  have:=(cnt3 (f:=fun x=>onF p x b) (d:=(0:Int)) (l:=l)).2 ⟨h,j,i,h1,h2,h3,b2,b3,b4⟩
  have h4:=H b b1
  unfold meetsF at h4
  omega
theorem with_perm {x : Int} (h : x ∉ l) : (withL l x).Perm (x :: l):=by
 unfold withL
 refine List.perm_middle.trans (List.Perm.cons x ?_)
 have e : l.filter (fun y=>ilt x y) = l.filter (fun y=>!ilt y x):=List.filter_congr fun y hy=>by
  have hne : y ≠ x:=fun e=>h (e ▸ hy)
  rw [Bool.eq_iff_iff,ilt_iff,Bool.not_eq_true',ilt_false]
  omega
 rw [e]
 exact List.filter_append_perm _ _
theorem with_ris {x : Int} (hr : ris l = true) : ris (withL l x) = true:=by
 refine pw_ris ?_
 unfold withL
 have hp:=ris_pw hr
 refine List.pairwise_append.2 ⟨hp.sublist (List.filter_sublist ..),List.Pairwise.cons (fun y hy=>?_) (hp.sublist (List.filter_sublist ..)),fun a ha b hb=>?_⟩
 ·exact ilt_iff.1 (List.mem_filter.1 hy).2
 ·have h1:=ilt_iff.1 (List.mem_filter.1 ha).2
  rcases List.mem_cons.1 hb with rfl | hb
  ·exact h1
  ·have h2:=ilt_iff.1 (List.mem_filter.1 hb).2
   omega
theorem with_sort {x : Int} (hr : ris l = true) (h : x ∉ l) : sortL (l ++ [x]) = withL l x :=
 (sortL_perm.trans ((List.perm_append_comm (l₁:=l) (l₂:=[x])).trans (with_perm h).symm)).eq_of_pairwise (fun a b _ _ h1 h2=>Int.le_antisymm h1 h2) sortL_pw ((ris_pw (with_ris hr)).imp fun h=>Int.le_of_lt h)
theorem with_all {x : Int} (hl : l.all (inPt p) = true) (hx : inPt p x = true) : (withL l x).all (inPt p) = true:=by
 rw [List.all_eq_true] at hl ⊢
 intro y hy
 unfold withL at hy
 rcases List.mem_append.1 hy with hy | hy
 ·exact hl y (List.mem_filter.1 hy).1
 ·rcases List.mem_cons.1 hy with rfl | hy
  ·exact hx
  ·exact hl y (List.mem_filter.1 hy).1
theorem with_meets {x b : Int} (h : x ∉ l) : meetsF p (withL l x) b = meetsF p l b + if onF p x b = true then 1 else 0:=by
 unfold meetsF
 rw [(with_perm h).countP_eq,List.countP_cons]
 split <;> simp
theorem may_iff (hp : isP p) (hl : l.all (inPt p) = true) (hr : ris l = true) {x : Nat} (hx : x < (ptsC p).length) : mayA p l x = true ↔ (x:Int) ∉ l ∧ ∀ b : Nat,b < (ptsC p).length → onF p x b = true → meetsF p l b ≤ 1:=by
 have hxin:=inPt_nat hp hx
 unfold mayA
 simp only [List.all_eq_true,List.mem_range,Bool.and_eq_true,Bool.not_eq_true',ieq_false]
 constructor
 ·intro H
  refine ⟨fun hm=>?_,fun b hb hon=>?_⟩
  ·obtain ⟨i,hi,he⟩:=List.getElem_of_mem hm
   exact (H i hi).1 (by rw [gd_at hi];exact he)
  ·rcases (show 1 < meetsF p l b ∨ meetsF p l b ≤ 1 by omega) with hlt | hle
   ·exfalso
    unfold meetsF at hlt
    obtain ⟨j,i,h1,h2,h3,h4⟩:=(cnt2 (f:=fun x=>onF p x b) (d:=(0:Int)) (l:=l)).1 (by omega)
    have:=(H i h2).2 j h1
    rw [(str_iff hp (all_at hl h2) (all_at hl (by omega)) hxin (by have:=ris_at hr h1 h2;omega)).2 ⟨b,hb,h4,h3,hon⟩] at this
    cases this
   ·exact hle
 ·rintro ⟨h1,h2⟩ i hi
  refine ⟨fun e=>h1 ?_,fun j hj=>?_⟩
  ·rw [← e,gd_at hi];exact List.getElem_mem hi
  ·rw [Bool.eq_false_iff]
   intro hs
   obtain ⟨b,b1,b2,b3,b4⟩:=(str_iff hp (all_at hl hi) (all_at hl (by omega)) hxin (by have:=ris_at hr hj hi;omega)).1 hs
   have:=(cnt2 (f:=fun x=>onF p x b) (d:=(0:Int)) (l:=l)).2 ⟨j,i,hj,hi,b3,b2⟩
   have h4:=h2 b b1 b4
   unfold meetsF at h4
   omega
theorem may_arc (hp : isP p) (hl : l.all (inPt p) = true) (hr : ris l = true) (ha : arcF p l = true) {x : Int} (hx : x ∈ frF p l) : inPt p x = true ∧ x ∉ l ∧ (withL l x).all (inPt p) = true ∧ ris (withL l x) = true ∧ arcF p (withL l x) = true:=by
 unfold frF flt at hx
 obtain ⟨n,hn,rfl⟩:=List.mem_map.1 hx
 obtain ⟨hn,hm⟩:=List.mem_filter.1 hn
 have hn:=List.mem_range.1 hn
 have hxin:=inPt_nat hp hn
 obtain ⟨m1,m2⟩:=(may_iff hp hl hr hn).1 hm
 refine ⟨hxin,m1,with_all hl hxin,with_ris hr,(arc_iff hp (with_all hl hxin) (with_ris hr)).2 fun b hb=>?_⟩
 rw [with_meets m1]
 have h2:=(arc_iff hp hl hr).1 ha b hb
 split
 ·rename_i hon;have:=m2 b hb hon;omega
 ·omega
end
end Go.Arcs
namespace Go.Arcs
open Go Go.Ab Go.Proofs
theorem rng_all {n : Nat} {Q : Nat → Bool} : (List.range n).all Q = true ↔ ∀ i,0 ≤ i → i < n → Q i = true:=by
 rw [List.all_eq_true]
 exact ⟨fun h i _ hi=>h i (List.mem_range.2 hi),fun h i hi=>h i (Nat.zero_le _) (List.mem_range.1 hi)⟩
abbrev I1D:=Int × Unit
noncomputable def arcQ (p:Int) (l:List Int) (i j:Nat) : Bool:=(List.range j).all fun h=>!strF p (l.getD h 0) (l.getD j 0) (l.getD i 0)
noncomputable def arcP (p:Int) (l:List Int) (i:Nat) : Bool:=(List.range i).all (arcQ p l i)
theorem in104a {k : PlaneD} {l : List Int} (hk : isPl k) (hl : l.all (inPt k.1) = true) (h60 : l.length ≤ 60) {i j : Nat} (hi : i < l.length) (hj : j < i) :
  whileO (g104_l0 k l ((i:Int),()) ((j:Int),())) (((0:Int),()) : I1D) = some (cond (arcQ k.1 l i j) (.go (((j + 1:Nat):Int),())) (.out (.out (false,())))):=by
 refine whileO_chk (st:=fun h : Nat=>(((h:Int),()) : I1D)) (lo:=0) (hi:=j) (Q:=fun h=>!strF k.1 (l.getD h 0) (l.getD j 0) (l.getD i 0)) (b:=arcQ k.1 l i j) (x:=Lp.out (Lp.out ((false,()) : Bool × Unit))) (y:=Lp.go ((((j + 1:Nat):Int),()) : I1D)) (Nat.zero_le _) rng_all (fun h _ hh=>?_) ?_
 ·unfold g104_l0
  dsimp only
  rw [cond_t (ilt_iff.2 (by omega)),gd_pos (by omega),gd_pos (by omega),gd_pos (by omega),gd_pos hk]
  simp only [Int.toNat_natCast]
  rw [gd_pos (all_at hl (by omega)),gd_pos (all_at hl (by omega)),gd_pos (all_at hl hi),cast1 (by omega)]
  cases strF k.1 (l.getD h 0) (l.getD j 0) (l.getD i 0) <;> rfl
 ·unfold g104_l0
  dsimp only
  rw [cond_f (ilt_false.2 (by omega)),cast1 (by omega)]
theorem in104b {k : PlaneD} {l : List Int} (hk : isPl k) (hl : l.all (inPt k.1) = true) (h60 : l.length ≤ 60) {i : Nat} (hi : i < l.length) :
  whileO (g104_l1 k l ((i:Int),())) (((0:Int),()) : I1D) = some (cond (arcP k.1 l i) (.go (((i + 1:Nat):Int),())) (.out (false,()))):=by
 refine whileO_chk (st:=fun j : Nat=>(((j:Int),()) : I1D)) (lo:=0) (hi:=i) (Q:=arcQ k.1 l i) (b:=arcP k.1 l i) (x:=Lp.out ((false,()) : Bool × Unit)) (y:=Lp.go ((((i + 1:Nat):Int),()) : I1D)) (Nat.zero_le _) rng_all (fun j _ hj=>?_) ?_
 ·unfold g104_l1
  dsimp only
  rw [cond_t (ilt_iff.2 (by omega)),in104a hk hl h60 hi hj]
 ·unfold g104_l1
  dsimp only
  rw [cond_f (ilt_false.2 (by omega)),cast1 (by omega)]
theorem goal104 : con104.goal Try.prog (spOf [con71]) g104_sh [] lm30:=by
 have e : (∀ (k : PlaneD) (l:List Int),isPl k → setP k.1 l → g104 k l = some (arcF k.1 l,())) = con104.goal Try.prog (spOf [con71]) g104_sh [] lm30:=by kernel_rfl
 rw [← e]
 rintro k l hk ⟨hl,h60⟩
 unfold g104
 refine (whileO_chk (st:=fun i : Nat=>(((i:Int),()) : I1D)) (lo:=0) (hi:=l.length) (Q:=arcP k.1 l) (b:=arcF k.1 l) (x:=((false,()) : Bool × Unit)) (y:=((true,()) : Bool × Unit)) (Nat.zero_le _) rng_all (fun i _ hi=>?_) ?_).trans (by cases arcF k.1 l <;> rfl)
 ·dsimp only
  rw [cond_t (ilt_iff.2 (by omega)),in104b hk hl h60 hi]
 ·dsimp only
  rw [cond_f (ilt_false.2 (by omega))]
set_option maxRecDepth 100000 in
theorem ok104 : con104.Ok Try.prog:=Con.of_goal mixed (okC ok71 okN) con104 goal104
theorem set_pl {p : Int} {l : List Int} (h : okSet p l = true) : isPl (planeF p) ∧ setP p l ∧ isP p:=by
 obtain ⟨h1,h2,h3⟩:=okSet_all h
 exact ⟨⟨isPb_iff.1 h1,rfl⟩,⟨h2,by have:=ok_len h;omega⟩,isPb_iff.1 h1⟩
theorem goal55 : con55.goal Try.prog (spOf [con78,con104]) g55_sh [] lm30:=by
 have e : (∀ (p:Int) (l:List Int),small l → g55 p l = some (arcX p l)) = con55.goal Try.prog (spOf [con78,con104]) g55_sh [] lm30:=by kernel_rfl
 rw [← e]
 intro p l hs
 unfold g55 arcX
 rw [gd_pos hs]
 by_cases h : okSet p l = true
 ·obtain ⟨h1,h2,h3⟩:=set_pl h
  have hp1 : (planeF p).1 = p:=rfl
  simp only [setF_ok h,if_pos h,Bool.not_true,cond_false,Option.isSome_some,Option.getD_some,gd_true]
  rw [gd_pos h1,gd_pos (by rw [hp1];exact h2)]
  rfl
 ·rw [if_neg h,setF_no h];rfl
set_option maxRecDepth 100000 in
theorem ok55 : con55.Ok Try.prog:=Con.of_goal mixed (okC ok78 (okC ok104 okN)) con55 goal55
noncomputable def mayB (p:Int) (l:List Int) (x:Int) (i:Nat) : Bool:=(List.range i).all fun j=>!strF p (l.getD i 0) (l.getD j 0) x
noncomputable def mayI (p:Int) (l:List Int) (x:Int) (i:Nat) : Bool:=!ieq (l.getD i 0) x && mayB p l x i
def addO (o:List Int) (b:Bool) (x:Nat) : List Int:=o ++ if b = true then [(x:Int)] else []
theorem flt_add {q : Nat → Bool} {n : Nat} : flt q (n + 1) = addO (flt q n) (q n) n:=flt_succ
theorem take_all {l : List Int} : List.take l.length (List.drop 0 l) = l:=by simp
end Go.Arcs
namespace Go.Arcs
open Go Go.Ab Go.Proofs
theorem goal38s : con38s.goal Try.prog (spS [] []) g38s_sh [5] lm30:=by
 have e : (∀ (l:List Int),l.length ≤ 100000 → g38s l = some (l,())) = con38s.goal Try.prog (spS [] []) g38s_sh [5] lm30:=by kernel_rfl
 rw [← e]
 intro l hl
 unfold g38s
 simp only [gd_true,Nat.le_refl]
 rw [gd_pos (by omega),gd_pos (by omega)]
 have : eqO (l.length = 0) (some (([]:List Int),())) (some (l,())) = some (l,()):=eqO_some.2 ⟨rfl,fun h=>by rw [List.eq_nil_of_length_eq_zero h]⟩
 rw [this]
 rfl
set_option maxRecDepth 100000 in
theorem ok38s : con38s.Ok Try.prog:=SCon.of_goal mixed okN okS0 con38s goal38s
abbrev R3:=Int × List Int × List Int × Unit
abbrev R4:=Int × Int × List Int × List Int × Unit
theorem in108sa {k : PlaneD} {l : List Int} (hk : isPl k) (hl : l.all (inPt k.1) = true) (h60 : l.length ≤ 60) {x i : Nat} (hx : x < (ptsC k.1).length) (hi : i < l.length) {o o' : List Int} :
  whileO (g108s_l0 (some k) (((x:Int),l,o',()) : R3) (((i:Int),l,o,()) : R3)) (((i:Int),(0:Int),l,o,()) : R4) = some (cond (mayB k.1 l x i) (.go (((i + 1:Nat):Int),l,o,())) (.out (.go (((x + 1:Nat):Int),l,o,())))):=by
 have h57:=pts_57 hk.1
 refine whileO_chk (st:=fun j : Nat=>(((i:Int),(j:Int),l,o,()) : R4)) (lo:=0) (hi:=i) (Q:=fun j=>!strF k.1 (l.getD i 0) (l.getD j 0) x) (b:=mayB k.1 l x i) (x:=Lp.out (Lp.go ((((x + 1:Nat):Int),l,o,()) : R3))) (y:=Lp.go ((((i + 1:Nat):Int),l,o,()) : R3)) (Nat.zero_le _) rng_all (fun j _ hj=>?_) ?_
 ·unfold g108s_l0
  simp only [Int.toNat_natCast,Nat.zero_add,gd_true,Option.isSome_some,Option.getD_some]
  rw [cond_t (ilt_iff.2 (by omega)),gd_pos (by omega),gd_pos (by omega),gd_pos hk,gd_pos (all_at hl hi),gd_pos (all_at hl (by omega)),gd_pos (inPt_nat hk.1 hx),cast1 (i:=j) (by omega),cast1 (i:=x) (by omega)]
  cases strF k.1 (l.getD i 0) (l.getD j 0) x <;> rfl
 ·unfold g108s_l0
  simp only [Int.toNat_natCast,gd_true]
  rw [cond_f (ilt_false.2 (by omega)),cast1 (i:=i) (by omega)]
theorem in108sb {k : PlaneD} {l : List Int} (hk : isPl k) (hl : l.all (inPt k.1) = true) (h60 : l.length ≤ 60) {x : Nat} (hx : x < (ptsC k.1).length) {o : List Int} (ho : o.length ≤ 60) :
  whileO (g108s_l1 (some k) (((x:Int),l,o,()) : R3)) (((0:Int),l,o,()) : R3) = some (.go (((x + 1:Nat):Int),l,addO o (mayA k.1 l x) x,())):=by
 have h57:=pts_57 hk.1
 have main:=whileO_chk (step:=g108s_l1 (some k) (((x:Int),l,o,()) : R3)) (st:=fun i : Nat=>(((i:Int),l,o,()) : R3)) (lo:=0) (hi:=l.length) (Q:=mayI k.1 l x) (b:=mayA k.1 l x) (x:=Lp.go ((((x + 1:Nat):Int),l,o,()) : R3)) (y:=Lp.go ((((x + 1:Nat):Int),l,o ++ [(x:Int)],()) : R3)) (Nat.zero_le _) rng_all (fun i _ hi=>?_) ?_
 ·refine main.trans ?_
  unfold addO
  cases mayA k.1 l x <;> simp
 ·unfold g108s_l1
  simp only [Int.toNat_natCast,gd_true,Nat.zero_add]
  rw [cond_t (ilt_iff.2 (by omega)),gd_pos (by omega),gd_pos (by omega),gd_pos (show (0:Int) ≤ (i:Int) ∧ (i:Int) ≤ l.length by omega),in108sa hk hl h60 hx hi,cast1 (i:=x) (by omega)]
  unfold mayI
  cases ieq (l.getD i 0) x <;> cases mayB k.1 l x i <;> rfl
 ·unfold g108s_l1
  simp only [Int.toNat_natCast,gd_true,Nat.le_refl,List.take_length,List.length_append,List.length_singleton]
  rw [cond_f (ilt_false.2 (by omega)),gd_pos (by omega),cast1 (i:=x) (by omega)]
theorem goal108s : con108s.goal Try.prog (spS [] [con71]) g108s_sh [] lm30:=by
 have e : (∀ (k : Option PlaneD) (l:List Int),k.isSome = true → isPl (k.getD plN) → setP (k.getD plN).1 l → g108s k l = some (frF (k.getD plN).1 l,l,())) = con108s.goal Try.prog (spS [] [con71]) g108s_sh [] lm30:=by kernel_rfl
 rw [← e]
 rintro (_ | k) l h0 hk ⟨hl,h60⟩
 ·cases h0
 simp only [Option.getD_some] at hk hl ⊢
 have h57:=pts_57 hk.1
 have hpts : k.2.1 = ptsC k.1:=by
  rw [hk.2];exact plane_pts k.1 (isP_mem hk.1)
 unfold g108s
 simp only [Option.getD_some,Option.isSome_some,gd_true,hpts]
 refine whileO_nat (st:=fun x : Nat=>(((x:Int),l,flt (fun (x:Nat)=>mayA k.1 l (x:Int)) x,()) : R3)) (lo:=0) (hi:=(ptsC k.1).length) (Nat.zero_le _) (fun x _ hx=>?_) ?_
 ·have:=flt_len (q:=fun (x:Nat)=>mayA k.1 l (x:Int)) (n:=x)
  dsimp only
  rw [cond_t (ilt_iff.2 (by omega)),in108sb hk hl h60 hx (by omega),flt_add]
 ·dsimp only
  rw [cond_f (ilt_false.2 (by omega)),gd_pos (by omega),take_all]
  rfl
set_option maxRecDepth 100000 in
theorem ok108s : con108s.Ok Try.prog:=SCon.of_goal mixed (okC ok71 okN) okS0 con108s goal108s
def newF (p:Int) (f : List Int → List Int) : Prop:=∀ l,okSet p l = true → ∀ x ∈ f l,inPt p x = true ∧ x ∉ l
section
variable {p : Int}
theorem okSet_mk {l : List Int} (hp : isP p) (hl : l.all (inPt p) = true) (hr : ris l = true) : okSet p l = true:=by
 unfold okSet
 rw [isPb_iff.2 hp,hl,hr];rfl
theorem new_fr (hp : isP p) : newF p (frF p):=fun l h x hx=>by
 obtain ⟨_,hl,hr⟩:=okSet_all h
 unfold frF flt at hx
 obtain ⟨n,hn,rfl⟩:=List.mem_map.1 hx
 obtain ⟨hn,hm⟩:=List.mem_filter.1 hn
 have hn:=List.mem_range.1 hn
 exact ⟨inPt_nat hp hn,((may_iff hp hl hr hn).1 hm).1⟩
theorem head_in {l : List Int} (h : l.length ≠ 0) : l.getD 0 0 ∈ l:=by
 rw [gd_at (by omega)];exact List.getElem_mem _
theorem with_ok {l : List Int} (h : okSet p l = true) {x : Int} (hx : inPt p x = true) : okSet p (withL l x) = true:=by
 obtain ⟨h1,h2,h3⟩:=okSet_all h
 exact okSet_mk (isPb_iff.1 h1) (with_all h2 hx) (with_ris h3)
theorem with_len {l : List Int} {x : Int} (h : x ∉ l) : (withL l x).length = l.length + 1:=by
 rw [(with_perm h).length_eq];rfl
theorem grow_loop {S X : Type} {step : S → Option (Lp S X)} (st : List Int → S) (out : List Int → X) {f : List Int → List Int} (hf : newF p f)
  (h1 : ∀ l,okSet p l = true → (f l).length = 0 → step (st l) = some (.out (out l))) (h2 : ∀ l,okSet p l = true → (f l).length ≠ 0 → step (st l) = some (.go (st (withL l ((f l).getD 0 0))))) :
  ∀ (n:Nat) (l:List Int),okSet p l = true → 58 ≤ l.length + n → whileO step (st l) = some (out (growA f n l))
 | 0,l,hl,hn=>by have:=ok_len hl;omega
 | n + 1,l,hl,hn=>by
  simp only [growA]
  by_cases h0 : (f l).length = 0
  ·rw [if_pos h0];exact whileO_out (h1 l hl h0)
  ·rw [if_neg h0,whileO_go (h2 l hl h0)]
   obtain ⟨a,b⟩:=hf l hl _ (head_in h0)
   exact grow_loop st out hf h1 h2 n _ (with_ok hl a) (by rw [with_len b];omega)
theorem grow_ok {f : List Int → List Int} (hf : newF p f) : ∀ (n:Nat) {l : List Int},okSet p l = true → okSet p (growA f n l) = true
 | 0,l,hl=>hl
 | n + 1,l,hl=>by
  simp only [growA]
  split
  ·exact hl
  ·rename_i h0
   exact grow_ok hf n (with_ok hl (hf l hl _ (head_in h0)).1)
end
theorem goal62 : con62.goal Try.prog (spS [con38s,con108s,sortCon 66 true] [con78,con104]) g62_sh [] lm30:=by
 have e : (∀ (p:Int) (l:List Int),small l → g62 p l = some (growX p l)) = con62.goal Try.prog (spS [con38s,con108s,sortCon 66 true] [con78,con104]) g62_sh [] lm30:=by kernel_rfl
 rw [← e]
 intro p l hs
 unfold g62 growX
 rw [gd_pos hs]
 by_cases h : okSet p l = true
 ·obtain ⟨h1,h2,hp⟩:=set_pl h
  have hp1 : (planeF p).1 = p:=rfl
  have hlen:=ok_len h
  have hle : l.length ≤ 100000:=by omega
  simp only [setF_ok h,if_pos h,Bool.not_true,cond_false,Option.isSome_some,Option.getD_some,gd_true,gd_pos h1,hp1,gd_pos h2,gd_pos hle]
  cases ha : arcF p l with
  | false=>rfl
  | true =>
   rw [if_pos rfl]
   refine (cond_f rfl).trans ?_
   refine grow_loop (p:=p) (st:=fun l=>((frF p l,l,()) : List Int × List Int × Unit)) (out:=fun l=>((l,0,()) : List Int × Int × Unit)) (new_fr hp) (fun l hl h0=>?_) (fun l hl h0=>?_) 60 l h (by omega)
   ·dsimp only
    rw [cond_f (ilt_false.2 (by omega)),gd_pos (by omega),take_all]
   ·obtain ⟨b1,b2,b3⟩:=okSet_all hl
    have hll:=ok_len hl
    obtain ⟨a1,a2⟩:=new_fr hp l hl _ (head_in h0)
    have hsrt : sortL (l ++ [(frF p l).getD 0 0]) = withL l ((frF p l).getD 0 0):=with_sort b3 a2
    have hok:=with_ok hl a1
    have hwl:=with_len a2
    have hset : setP p (withL l ((frF p l).getD 0 0)):=(set_pl hok).2.1
    simp only [List.take_length,hsrt,gd_pos hset,hwl,gd_true,Nat.le_refl,List.length_append,List.length_singleton]
    rw [cond_t (ilt_iff.2 (by omega)),gd_pos (by omega),gd_pos (by omega),gd_pos (by omega)]
 ·rw [if_neg h,setF_no h];rfl
set_option maxRecDepth 100000 in
theorem ok62 : con62.Ok Try.prog:=Con.of_goalS mixed (okC ok78 (okC ok104 okN)) (okS ok38s (okS ok108s (okS (ok66 true) okS0))) con62 goal62
end Go.Arcs
namespace Go.Arcs
open Go Go.Ab Go.Proofs
end Go.Arcs
namespace Go.Arcs
open Go Go.Ab Go.Proofs
end Go.Arcs
namespace Go.Arcs
open Go Go.Ab Go.Proofs
section
variable {p : Int} {l : List Int}
theorem grow_arc (hp : isP p) : ∀ (n:Nat) {l : List Int},okSet p l = true → arcF p l = true → arcF p (growA (frF p) n l) = true
 | 0,l,_,h=>h
 | n + 1,l,hl,h=>by
  simp only [growA]
  split
  ·exact h
  ·rename_i h0
   obtain ⟨_,h2,h3⟩:=okSet_all hl
   obtain ⟨a,_,_,_,b⟩:=may_arc hp h2 h3 h (head_in h0)
   exact grow_arc hp n (with_ok hl a) b
end
end Go.Arcs
