/- Points and On;the laws ArcsPoints and ArcsPlane as contracts. -/
import Derived.Test.YtffapeomfjfedaaXA
set_option linter.unusedVariables false
set_option linter.unusedSimpArgs false
namespace Go.Arcs
open Go Go.Ab Go.Proofs
def onFF (p a b:Int) : Bool × Int × Unit:=if isPb p = true ∧ inPt p a = true ∧ inPt p b = true then (onF p a b,0,()) else (false,2,())
noncomputable def con26 : Con:=mkC 26 [.d I64,.d I64,.d I64] [.bool,I64] (fun (p a b:Int)=>[]) (fun (p a b:Int)=>onFF p a b)
noncomputable def g26 (x0 x1 x2:Int) : Option (Bool × Int × Unit):=gd (small (x1 :: x2 :: ([]:List Int))) (bif !(readF x0 (x1 :: x2 :: ([]:List Int))).2.1 then some ((false,2,()) : Bool × Int × Unit) else gd (Option.isSome (readF x0 (x1 :: x2 :: ([]:List Int))).1 = true) (gd (isPl (Option.getD (readF x0 (x1 :: x2 :: ([]:List Int))).1 ((0,([] : List (Int × Int × Int × Unit)),([] : List ((Int × Int × Int × Unit) × Int)),()) : Int × List (Int × Int × Int × Unit) × List ((Int × Int × Int × Unit) × Int) × Unit))) (gd (inPt (Option.getD (readF x0 (x1 :: x2 :: ([]:List Int))).1 ((0,([] : List (Int × Int × Int × Unit)),([] : List ((Int × Int × Int × Unit) × Int)),()) : Int × List (Int × Int × Int × Unit) × List ((Int × Int × Int × Unit) × Int) × Unit)).1 x1 = true) (gd (inPt (Option.getD (readF x0 (x1 :: x2 :: ([]:List Int))).1 ((0,([] : List (Int × Int × Int × Unit)),([] : List ((Int × Int × Int × Unit) × Int)),()) : Int × List (Int × Int × Int × Unit) × List ((Int × Int × Int × Unit) × Int) × Unit)).1 x2 = true) (some ((onF (Option.getD (readF x0 (x1 :: x2 :: ([]:List Int))).1 ((0,([] : List (Int × Int × Int × Unit)),([] : List ((Int × Int × Int × Unit) × Int)),()) : Int × List (Int × Int × Int × Unit) × List ((Int × Int × Int × Unit) × Int) × Unit)).1 x1 x2,0,()) : Bool × Int × Unit))))))
noncomputable def g26_sh : List LSh:=([] : List LSh)
def eqLf {α : Type} (q : α → α → Bool) : List α → List α → Bool
 | [],[]=>true
 | x :: l,y :: m=>q x y && eqLf q l m
 | _,_=>false
def deqT (x y : TripD) : Bool:=deq Trip x y
theorem goal26 : con26.goal Try.prog (spOf [conRead,con70]) g26_sh [] lm30:=by
 have e : (∀ (p a b:Int),g26 p a b = some (onFF p a b)) = con26.goal Try.prog (spOf [conRead,con70]) g26_sh [] lm30:=by kernel_rfl
 rw [← e]
 intro p a b
 have hs : small [a,b]:=by simp [small]
 have h1 : (planeF p).1 = p:=rfl
 unfold g26
 rw [gd_pos hs]
 by_cases hp : isPb p = true
 ·have hpl : isPl (planeF p):=⟨isPb_iff.1 hp,rfl⟩
  by_cases ha : inPt p a = true <;> by_cases hb : inPt p b = true <;> simp [readF,onFF,gd_true,hp,ha,hb,h1,hpl]
 ·simp [readF,onFF,gd_true,hp]
set_option maxRecDepth 100000 in
theorem ok26 : con26.Ok Try.prog:=Con.of_goal mixed (okC okRead (okC ok70 okN)) con26 goal26
theorem eqLf_len {α : Type} {q : α → α → Bool} : ∀ {l m : List α},l.length ≠ m.length → eqLf q l m = false
 | [],[],h=>absurd rfl h
 | [],_ :: _,_=>rfl
 | _ :: _,[],_=>rfl
 | x :: l,y :: m,h=>by
  rw [eqLf,eqLf_len (by simpa using h),Bool.and_false]
theorem eqLf_iff {α : Type} {q : α → α → Bool} (hq : ∀ x y,q x y = true ↔ x = y) : ∀ {l m : List α},eqLf q l m = true ↔ l = m
 | [],[]=>by simp [eqLf]
 | [],_ :: _=>by simp [eqLf]
 | _ :: _,[]=>by simp [eqLf]
 | x :: l,y :: m=>by simp [eqLf,hq,eqLf_iff hq (l:=l) (m:=m)]
theorem deqT_iff (x y : TripD) : deqT x y = true ↔ x = y:=deq_iff (t:=Trip) rfl
end Go.Arcs
namespace Go.Arcs
open Go Go.Ab Go.Proofs
theorem line_tab : ∀ p ∈ ([2,3,5,7]:List Int),∀ y ∈ ptsC p,(((ptsC p).countP fun x=>ieq (dotC p x y) 0:Nat):Int) = p + 1:=by decide +kernel
theorem ixA_spec {α : Type} {q : α → Bool} : ∀ {l : List α} {i : Int},(∃ x ∈ l,q x = true) → ∃ k : Nat,∃ h : k < l.length,ixA q l i = i + k ∧ q l[k] = true
 | [],i,h=>by obtain ⟨x,hx,_⟩:=h;cases hx
 | x :: l,i,h=>by
  by_cases hx : q x = true
  ·exact ⟨0,by simp,by simp [ixA,hx],hx⟩
  ·obtain ⟨y,hy,hq⟩:=h
   rcases List.mem_cons.1 hy with rfl | hy
   ·exact absurd hq hx
   ·obtain ⟨k,h1,h2,h3⟩:=ixA_spec (i:=i + 1) ⟨y,hy,hq⟩
    refine ⟨k + 1,by simp;omega,?_,h3⟩
    rw [ixA,if_neg hx,h2]
    push_cast
    omega
theorem both_tab : ∀ p ∈ ([2,3,5,7]:List Int),∀ x ∈ ptsC p,∀ y ∈ ptsC p,((ptsC p).any (bothF p x y)) = true:=by decide +kernel
theorem join_on {p a b : Int} (hp : isP p) (ha : inPt p a = true) (hb : inPt p b = true) (hab : a ≠ b) : inPt p (thrF p a b) = true ∧ onF p a (thrF p a b) = true ∧ onF p b (thrF p a b) = true:=by
 have h:=both_tab p (isP_mem hp) _ (pt_mem hp ha) _ (pt_mem hp hb)
 rw [List.any_eq_true] at h
 obtain ⟨k,h1,h2,h3⟩:=ixA_spec (i:=0) h
 have hl:=pts_len p (isP_mem hp)
 rw [thr_join hp ha hb hab,joinR,h2]
 have hin : inPt p (0 + (k:Int)) = true:=inPt_iff.2 ⟨by omega,by omega⟩
 obtain ⟨h4,h5⟩:=pt_at hp hin
 have hk : (0 + (k:Int)).toNat = k:=by omega
 simp only [hk] at h5
 simp only [bothF,Bool.and_eq_true] at h3
 rw [← h5] at h3
 exact ⟨hin,h3⟩
end Go.Arcs
