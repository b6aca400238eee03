/- The law Maps: contracts. -/
import Derived.Test.YtffapeomfjfedaaXI
import Derived.Test.YtffapeomfjfedaaXE
set_option linter.unusedVariables false
set_option linter.unusedSimpArgs false
namespace Go.Arcs
open Go Go.Ab Go.Proofs
noncomputable def nmR (p:Int) (x : TripD) : Int:=ixA (fun q=>deq Trip q (unitF p x)) (ptsC p) 0
end Go.Arcs
namespace Go.Arcs
open Go Go.Ab Go.Proofs
end Go.Arcs
namespace Go.Arcs
open Go Go.Ab Go.Proofs
end Go.Arcs
namespace Go.Arcs
open Go Go.Ab Go.Proofs
end Go.Arcs
namespace Go.Arcs
open Go Go.Ab Go.Proofs
end Go.Arcs
namespace Go.Arcs
open Go Go.Ab Go.Proofs
end Go.Arcs
namespace Go.Arcs
open Go Go.Ab Go.Proofs
end Go.Arcs
namespace Go.Arcs
open Go Go.Ab Go.Proofs
end Go.Arcs
namespace Go.Arcs
open Go Go.Ab Go.Proofs
theorem mod_in {p x : Int} (hp : isP p) : 0 ≤ x % p ∧ x % p < p:=by
 have:=isP_bd hp
 exact ⟨Int.emod_nonneg _ (by omega),Int.emod_lt_of_pos _ (by omega)⟩
end Go.Arcs
namespace Go.Arcs
open Go Go.Ab Go.Proofs
theorem ix_tab : ∀ p ∈ ([2,3,5,7]:List Int),∀ x ∈ ptsC p,ixA (fun q=>deq Trip q x) (ptsC p) 0 = numC p x:=by decide +kernel
theorem nm_num {p : Int} (hp : isP p) {t : TripD} (h0 : ¬ Z3 p t) : nmR p t = numC p (lowF p (modT p t)) ∧ inPt p (nmR p t) = true ∧ Pr p (pt p (nmR p t)) t:=by
 have h1 : ¬ (t.1 % p = 0 ∧ t.2.1 % p = 0 ∧ t.2.2.1 % p = 0):=fun h=>h0 ⟨Int.dvd_of_emod_eq_zero h.1,Int.dvd_of_emod_eq_zero h.2.1,Int.dvd_of_emod_eq_zero h.2.2⟩
 have hin : inR p (modT p t):=⟨mod_in hp,mod_in hp,mod_in hp⟩
 obtain ⟨s1,s2,s3⟩:=low_spec hp hin h1
 have e : nmR p t = numC p (lowF p (modT p t)):=by
  unfold nmR unitF
  rw [if_neg h1]
  exact ix_tab p (isP_mem hp) _ s1
 refine ⟨e,by rw [e];exact s2,?_⟩
 rw [e,s3]
 obtain ⟨l,mu,hu,hc⟩:=low_cv hp hin h1
 refine ⟨l,unit_nd hp hu,CV.trans hc ?_⟩
 exact ⟨Ce.rfl'.mul Ce.mod,Ce.rfl'.mul Ce.mod,Ce.rfl'.mul Ce.mod⟩
theorem pt_nz {p a : Int} (hp : isP p) (ha : inPt p a = true) : ¬ Z3 p (pt p a):=fun h =>
 (notOb_iff.1 (pts_notO p (isP_mem hp) _ (pt_mem hp ha))) (Z3_zero (pt_in hp ha) h)
theorem nm_iff {p : Int} (hp : isP p) {t : TripD} (h0 : ¬ Z3 p t) {b : Int} (hb : inPt p b = true) : nmR p t = b ↔ Pr p t (pt p b):=by
 obtain ⟨_,h2,h3⟩:=nm_num hp h0
 constructor
 ·rintro rfl
  exact h3.symm hp
 ·intro h
  exact Pr.eqp hp h2 hb (h3.trans hp h)
end Go.Arcs
namespace Go.Arcs
open Go Go.Ab Go.Proofs
end Go.Arcs
namespace Go.Arcs
open Go Go.Ab Go.Proofs
end Go.Arcs
