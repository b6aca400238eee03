/- The law Arcs: contracts. -/
import Derived.Test.YtffapeomfjfedaaXH
import Derived.Test.YtffapeomfjfedaaSS
import Derived.Test.YtffapeomfjfedaaXC
import Derived.Test.YtffapeomfjfedaaXF
set_option linter.unusedVariables false
set_option linter.unusedSimpArgs false
namespace Go.Arcs
open Go Go.Ab Go.Proofs
noncomputable def arcF (p:Int) (l:List Int) : Bool:=(List.range l.length).all fun i=>(List.range i).all fun j=>(List.range j).all fun h=>!strF p (l.getD h 0) (l.getD j 0) (l.getD i 0)
def setP (p:Int) (l:List Int) : Prop:=l.all (inPt p) = true ∧ l.length ≤ 60
noncomputable def con104 : Con:=mkC 104 [.d (.ptr Plane),.d LI] [.bool] (fun (k : PlaneD) (l:List Int)=>[isPl k,setP k.1 l]) (fun (k : PlaneD) (l:List Int)=>(arcF k.1 l,()))
noncomputable def g104_l0 (x0 : Int × List (Int × Int × Int × Unit) × List ((Int × Int × Int × Unit) × Int) × Unit) (x1:List Int) (d2 d3 d4 : Int × Unit) : Option (Lp (Int × Unit) (Lp (Int × Unit) (Lp (Int × Unit) (Bool × Unit)))):=bif ilt d4.1 d3.1 then gd ((0:Int) ≤ d4.1 ∧ d4.1 < (↑(List.length x1):Int)) (gd ((0:Int) ≤ d3.1 ∧ d3.1 < (↑(List.length x1):Int)) (gd ((0:Int) ≤ d2.1 ∧ d2.1 < (↑(List.length x1):Int)) (gd (isPl x0) (gd (inPt x0.1 (List.getD x1 (Int.toNat d4.1) (0:Int)) = true) (gd (inPt x0.1 (List.getD x1 (Int.toNat d3.1) (0:Int)) = true) (gd (inPt x0.1 (List.getD x1 (Int.toNat d2.1) (0:Int)) = true) (bif strF x0.1 (List.getD x1 (Int.toNat d4.1) (0:Int)) (List.getD x1 (Int.toNat d3.1) (0:Int)) (List.getD x1 (Int.toNat d2.1) (0:Int)) then some (Lp.out (Lp.out (Lp.out ((false,()) : Bool × Unit)))) else some (Lp.go ((wr .i64 (d4.1 + (1:Int)),()) : Int × Unit))))))))) else some (Lp.out (Lp.go ((wr .i64 (d3.1 + (1:Int)),()) : Int × Unit)))
noncomputable def g104_l1 (x0 : Int × List (Int × Int × Int × Unit) × List ((Int × Int × Int × Unit) × Int) × Unit) (x1:List Int) (d2 d3 : Int × Unit) : Option (Lp (Int × Unit) (Lp (Int × Unit) (Bool × Unit))):=bif ilt d3.1 d2.1 then whileO (g104_l0 x0 x1 d2 d3) (((0:Int),()) : Int × Unit) else some (Lp.out (Lp.go ((wr .i64 (d2.1 + (1:Int)),()) : Int × Unit)))
noncomputable def g104 (x0 : Int × List (Int × Int × Int × Unit) × List ((Int × Int × Int × Unit) × Int) × Unit) (x1:List Int) : Option (Bool × Unit):=whileO (fun (d2 : Int × Unit)=>bif ilt d2.1 (↑(List.length x1):Int) then whileO (g104_l1 x0 x1 d2) (((0:Int),()) : Int × Unit) else some (Lp.out ((true,()) : Bool × Unit))) (((0:Int),()) : Int × Unit)
noncomputable def g104_sh : List LSh:=LSh.mk (((10,TV.v (Ty.int IntKind.i64)) : Nat × TV) :: ([] : List (Nat × TV))) ([] : List TB) :: LSh.mk (((14,TV.v (Ty.int IntKind.i64)) : Nat × TV) :: ([] : List (Nat × TV))) ([] : List TB) :: LSh.mk (((18,TV.v (Ty.int IntKind.i64)) : Nat × TV) :: ([] : List (Nat × TV))) ([] : List TB) :: ([] : List LSh)
noncomputable def arcX (p:Int) (l:List Int) : Bool × Int × Unit:=if okSet p l = true then (arcF p l,0,()) else (false,2,())
noncomputable def con55 : Con:=mkC 55 [.d I64,.d LI] [.bool,I64] (fun (p:Int) (l:List Int)=>[small l]) (fun (p:Int) (l:List Int)=>arcX p l)
noncomputable def g55 (x0:Int) (x1:List Int) : Option (Bool × Int × Unit):=gd (small x1) (bif !(setF x0 x1).2.1 then some ((false,(2:Int),()) : Bool × Int × Unit) else gd (Option.isSome (setF x0 x1).1 = true) (gd (isPl (Option.getD (setF x0 x1).1 (((0:Int),([] : List (Int × Int × Int × Unit)),([] : List ((Int × Int × Int × Unit) × Int)),()) : Int × List (Int × Int × Int × Unit) × List ((Int × Int × Int × Unit) × Int) × Unit))) (gd (setP (Option.getD (setF x0 x1).1 (((0:Int),([] : List (Int × Int × Int × Unit)),([] : List ((Int × Int × Int × Unit) × Int)),()) : Int × List (Int × Int × Int × Unit) × List ((Int × Int × Int × Unit) × Int) × Unit)).1 x1) (some ((arcF (Option.getD (setF x0 x1).1 (((0:Int),([] : List (Int × Int × Int × Unit)),([] : List ((Int × Int × Int × Unit) × Int)),()) : Int × List (Int × Int × Int × Unit) × List ((Int × Int × Int × Unit) × Int) × Unit)).1 x1,(0:Int),()) : Bool × Int × Unit)))))
noncomputable def g55_sh : List LSh:=([] : List LSh)
def plN : PlaneD:=(0,[],[],())
end Go.Arcs
namespace Go.Arcs
open Go Go.Ab Go.Proofs
section
variable {α : Type} {f : α → Bool} {d : α}
end
section
variable {p : Int}
theorem pw_ris : ∀ {l : List Int},l.Pairwise (· < ·) → ris l = true
  | [],_=>rfl
  | [x],_=>rfl
  | x :: y :: l,h=>by
    obtain ⟨h1,h2⟩:=List.pairwise_cons.1 h
    have:=pw_ris h2
    simp only [ris,this,Bool.and_true,decide_eq_true_eq]
    exact h1 y (List.mem_cons_self ..)
theorem all_at {q : Int → Bool} {l : List Int} (h : l.all q = true) {i : Nat} (hi : i < l.length) : q (l.getD i 0) = true:=by
  rw [gd_at hi];exact List.all_eq_true.1 h _ (List.getElem_mem hi)
variable {l : List Int}
end
end Go.Arcs
namespace Go.Arcs
open Go Go.Ab Go.Proofs
theorem rng_all {n : Nat} {Q : Nat → Bool} : (List.range n).all Q = true ↔ ∀ i,0 ≤ i → i < n → Q i = true:=by
  rw [List.all_eq_true]
  exact ⟨fun h i _ hi=>h i (List.mem_range.2 hi),fun h i hi=>h i (Nat.zero_le _) (List.mem_range.1 hi)⟩
abbrev I1D:=Int × Unit
noncomputable def arcQ (p:Int) (l:List Int) (i j:Nat) : Bool:=(List.range j).all fun h=>!strF p (l.getD h 0) (l.getD j 0) (l.getD i 0)
noncomputable def arcP (p:Int) (l:List Int) (i:Nat) : Bool:=(List.range i).all (arcQ p l i)
theorem in104a {k : PlaneD} {l : List Int} (hk : isPl k) (hl : l.all (inPt k.1) = true) (h60 : l.length ≤ 60) {i j : Nat} (hi : i < l.length) (hj : j < i) :
    whileO (g104_l0 k l ((i:Int),()) ((j:Int),())) (((0:Int),()) : I1D) = some (cond (arcQ k.1 l i j) (.go (((j + 1:Nat):Int),())) (.out (.out (false,())))):=by
  refine whileO_chk (st:=fun h : Nat=>(((h:Int),()) : I1D)) (lo:=0) (hi:=j) (Q:=fun h=>!strF k.1 (l.getD h 0) (l.getD j 0) (l.getD i 0)) (b:=arcQ k.1 l i j) (x:=Lp.out (Lp.out ((false,()) : Bool × Unit))) (y:=Lp.go ((((j + 1:Nat):Int),()) : I1D)) (Nat.zero_le _) rng_all (fun h _ hh=>?_) ?_
  · unfold g104_l0
    dsimp only
    rw [cond_t (ilt_iff.2 (by omega)),gd_pos (by omega),gd_pos (by omega),gd_pos (by omega),gd_pos hk]
    simp only [Int.toNat_natCast]
    rw [gd_pos (all_at hl (by omega)),gd_pos (all_at hl (by omega)),gd_pos (all_at hl hi),cast1 (by omega)]
    cases strF k.1 (l.getD h 0) (l.getD j 0) (l.getD i 0) <;> rfl
  · unfold g104_l0
    dsimp only
    rw [cond_f (ilt_false.2 (by omega)),cast1 (by omega)]
theorem in104b {k : PlaneD} {l : List Int} (hk : isPl k) (hl : l.all (inPt k.1) = true) (h60 : l.length ≤ 60) {i : Nat} (hi : i < l.length) :
    whileO (g104_l1 k l ((i:Int),())) (((0:Int),()) : I1D) = some (cond (arcP k.1 l i) (.go (((i + 1:Nat):Int),())) (.out (false,()))):=by
  refine whileO_chk (st:=fun j : Nat=>(((j:Int),()) : I1D)) (lo:=0) (hi:=i) (Q:=arcQ k.1 l i) (b:=arcP k.1 l i) (x:=Lp.out ((false,()) : Bool × Unit)) (y:=Lp.go ((((i + 1:Nat):Int),()) : I1D)) (Nat.zero_le _) rng_all (fun j _ hj=>?_) ?_
  · unfold g104_l1
    dsimp only
    rw [cond_t (ilt_iff.2 (by omega)),in104a hk hl h60 hi hj]
  · unfold g104_l1
    dsimp only
    rw [cond_f (ilt_false.2 (by omega)),cast1 (by omega)]
theorem goal104 : con104.goal Try.prog (spOf [con71]) g104_sh [] lm30:=by
  have e : (∀ (k : PlaneD) (l:List Int),isPl k → setP k.1 l → g104 k l = some (arcF k.1 l,())) = con104.goal Try.prog (spOf [con71]) g104_sh [] lm30:=by kernel_rfl
  rw [← e]
  rintro k l hk ⟨hl,h60⟩
  unfold g104
  refine (whileO_chk (st:=fun i : Nat=>(((i:Int),()) : I1D)) (lo:=0) (hi:=l.length) (Q:=arcP k.1 l) (b:=arcF k.1 l) (x:=((false,()) : Bool × Unit)) (y:=((true,()) : Bool × Unit)) (Nat.zero_le _) rng_all (fun i _ hi=>?_) ?_).trans (by cases arcF k.1 l <;> rfl)
  · dsimp only
    rw [cond_t (ilt_iff.2 (by omega)),in104b hk hl h60 hi]
  · dsimp only
    rw [cond_f (ilt_false.2 (by omega))]
set_option maxRecDepth 100000 in
theorem ok104 : con104.Ok Try.prog:=Con.of_goal mixed (okC ok71 okN) con104 goal104
theorem set_pl {p : Int} {l : List Int} (h : okSet p l = true) : isPl (planeF p) ∧ setP p l ∧ isP p:=by
  obtain ⟨h1,h2,h3⟩:=okSet_all h
  exact ⟨⟨isPb_iff.1 h1,rfl⟩,⟨h2,by have:=ok_len h;omega⟩,isPb_iff.1 h1⟩
theorem goal55 : con55.goal Try.prog (spOf [con78,con104]) g55_sh [] lm30:=by
  have e : (∀ (p:Int) (l:List Int),small l → g55 p l = some (arcX p l)) = con55.goal Try.prog (spOf [con78,con104]) g55_sh [] lm30:=by kernel_rfl
  rw [← e]
  intro p l hs
  unfold g55 arcX
  rw [gd_pos hs]
  by_cases h : okSet p l = true
  · obtain ⟨h1,h2,h3⟩:=set_pl h
    have hp1 : (planeF p).1 = p:=rfl
    simp only [setF_ok h,if_pos h,Bool.not_true,cond_false,Option.isSome_some,Option.getD_some,gd_true]
    rw [gd_pos h1,gd_pos (by rw [hp1];exact h2)]
    rfl
  · rw [if_neg h,setF_no h];rfl
set_option maxRecDepth 100000 in
theorem ok55 : con55.Ok Try.prog:=Con.of_goal mixed (okC ok78 (okC ok104 okN)) con55 goal55
end Go.Arcs
namespace Go.Arcs
open Go Go.Ab Go.Proofs
section
variable {p : Int}
end
end Go.Arcs
namespace Go.Arcs
open Go Go.Ab Go.Proofs
end Go.Arcs
namespace Go.Arcs
open Go Go.Ab Go.Proofs
end Go.Arcs
namespace Go.Arcs
open Go Go.Ab Go.Proofs
section
variable {p : Int} {l : List Int}
end
end Go.Arcs
