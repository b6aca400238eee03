/- Points and On;the laws ArcsPoints and ArcsPlane as contracts. -/
import Derived.Test.YtffapeomfjfedaaXA
set_option linter.unusedVariables false
set_option linter.unusedSimpArgs false
namespace Go.Arcs
open Go Go.Ab Go.Proofs
def eqLf {α : Type} (q : α → α → Bool) : List α → List α → Bool
  | [],[]=>true
  | x :: l,y :: m=>q x y && eqLf q l m
  | _,_=>false
def deqT (x y : TripD) : Bool:=deq Trip x y
theorem eqLf_len {α : Type} {q : α → α → Bool} : ∀ {l m : List α},l.length ≠ m.length → eqLf q l m = false
  | [],[],h=>absurd rfl h
  | [],_ :: _,_=>rfl
  | _ :: _,[],_=>rfl
  | x :: l,y :: m,h=>by
    rw [eqLf,eqLf_len (by simpa using h),Bool.and_false]
theorem eqLf_iff {α : Type} {q : α → α → Bool} (hq : ∀ x y,q x y = true ↔ x = y) : ∀ {l m : List α},eqLf q l m = true ↔ l = m
  | [],[]=>by simp [eqLf]
  | [],_ :: _=>by simp [eqLf]
  | _ :: _,[]=>by simp [eqLf]
  | x :: l,y :: m=>by simp [eqLf,hq,eqLf_iff hq (l:=l) (m:=m)]
theorem deqT_iff (x y : TripD) : deqT x y = true ↔ x = y:=deq_iff (t:=Trip) rfl
end Go.Arcs
namespace Go.Arcs
open Go Go.Ab Go.Proofs
theorem ixA_spec {α : Type} {q : α → Bool} : ∀ {l : List α} {i : Int},(∃ x ∈ l,q x = true) → ∃ k : Nat,∃ h : k < l.length,ixA q l i = i + k ∧ q l[k] = true
  | [],i,h=>by obtain ⟨x,hx,_⟩:=h;cases hx
  | x :: l,i,h=>by
    by_cases hx : q x = true
    · exact ⟨0,by simp,by simp [ixA,hx],hx⟩
    · obtain ⟨y,hy,hq⟩:=h
      rcases List.mem_cons.1 hy with rfl | hy
      · exact absurd hq hx
      · obtain ⟨k,h1,h2,h3⟩:=ixA_spec (i:=i + 1) ⟨y,hy,hq⟩
        refine ⟨k + 1,by simp;omega,?_,h3⟩
        rw [ixA,if_neg hx,h2]
        push_cast
        omega
theorem both_tab : ∀ p ∈ ([2,3,5,7]:List Int),∀ x ∈ ptsC p,∀ y ∈ ptsC p,((ptsC p).any (bothF p x y)) = true:=by decide +kernel
theorem join_on {p a b : Int} (hp : isP p) (ha : inPt p a = true) (hb : inPt p b = true) (hab : a ≠ b) : inPt p (thrF p a b) = true ∧ onF p a (thrF p a b) = true ∧ onF p b (thrF p a b) = true:=by
  have h:=both_tab p (isP_mem hp) _ (pt_mem hp ha) _ (pt_mem hp hb)
  rw [List.any_eq_true] at h
  obtain ⟨k,h1,h2,h3⟩:=ixA_spec (i:=0) h
  have hl:=pts_len p (isP_mem hp)
  rw [thr_join hp ha hb hab,joinR,h2]
  have hin : inPt p (0 + (k:Int)) = true:=inPt_iff.2 ⟨by omega,by omega⟩
  obtain ⟨h4,h5⟩:=pt_at hp hin
  have hk : (0 + (k:Int)).toNat = k:=by omega
  simp only [hk] at h5
  simp only [bothF,Bool.and_eq_true] at h3
  rw [← h5] at h3
  exact ⟨hin,h3⟩
end Go.Arcs
