/- Maps of the plane: contracts. -/
import Derived.Test.YtffapeomfjfedaaXC
set_option linter.unusedVariables false
set_option linter.unusedSimpArgs false
namespace Go.Arcs
open Go Go.Ab Go.Proofs
abbrev MatD:=TripD × TripD × TripD × Unit
def colF (m : MatD) (j:Int) : TripD:=if j = 0 then (m.1.1,m.2.1.1,m.2.2.1.1,()) else if j = 1 then (m.1.2.1,m.2.1.2.1,m.2.2.1.2.1,()) else (m.1.2.2.1,m.2.1.2.2.1,m.2.2.1.2.2.1,())
def detF (p:Int) (m : MatD) : Int:=dotC p (crossF p (colF m 0) (colF m 1)) (colF m 2)
end Go.Arcs
namespace Go.Arcs
open Go Go.Ab Go.Proofs
end Go.Arcs
namespace Go.Arcs
open Go Go.Ab Go.Proofs
end Go.Arcs
namespace Go.Arcs
open Go Go.Ab Go.Proofs
end Go.Arcs
namespace Go.Arcs
open Go Go.Ab Go.Proofs
def detM (m : MatD) : Int:=m.1.1 * (m.2.1.2.1 * m.2.2.1.2.2.1 - m.2.2.1.2.1 * m.2.1.2.2.1) + m.2.1.1 * (m.2.2.1.2.1 * m.1.2.2.1 - m.1.2.1 * m.2.2.1.2.2.1) + m.2.2.1.1 * (m.1.2.1 * m.2.1.2.2.1 - m.2.1.2.1 * m.1.2.2.1)
def mulV (m : MatD) (x : TripD) : TripD:=(m.1.1 * x.1 + m.1.2.1 * x.2.1 + m.1.2.2.1 * x.2.2.1,m.2.1.1 * x.1 + m.2.1.2.1 * x.2.1 + m.2.1.2.2.1 * x.2.2.1,m.2.2.1.1 * x.1 + m.2.2.1.2.1 * x.2.1 + m.2.2.1.2.2.1 * x.2.2.1,())
theorem det_ne {p : Int} {m : MatD} (h : detF p m ≠ 0) : detM m % p ≠ 0:=by
  intro hd
  apply h
  obtain ⟨n,hn⟩:=Int.dvd_of_emod_eq_zero hd
  obtain ⟨⟨a1,a2,a3,_⟩,⟨b1,b2,b3,_⟩,⟨c1,c2,c3,_⟩,_⟩:=m
  simp only [detM] at hn
  simp only [detF,dotC,crossF,colF]
  simp only [if_true,if_neg (show (1:Int) ≠ 0 by decide),if_neg (show (2:Int) ≠ 0 by decide),if_neg (show (2:Int) ≠ 1 by decide)]
  have e1:=Int.emod_add_mul_ediv (b1 * c2 - c1 * b2) p
  have e2:=Int.emod_add_mul_ediv (c1 * a2 - a1 * c2) p
  have e3:=Int.emod_add_mul_ediv (a1 * b2 - b1 * a2) p
  refine Int.emod_eq_zero_of_dvd ?_
  exact ⟨n - (b1 * c2 - c1 * b2) / p * a3 - (c1 * a2 - a1 * c2) / p * b3 - (a1 * b2 - b1 * a2) / p * c3,by grind⟩
theorem dvd_zero {p x : Int} (h : 0 ≤ x ∧ x < p) (hd : p ∣ x) : x = 0:=by rw [← Int.emod_eq_of_lt h.1 h.2];exact Int.emod_eq_zero_of_dvd hd
end Go.Arcs
namespace Go.Arcs
open Go Go.Ab Go.Proofs
def smul (k:Int) (A : TripD) : TripD:=(k * A.1,k * A.2.1,k * A.2.2.1,())
theorem unit_ex {p v : Int} (hp : isP p) (h : ¬ p ∣ v) : ∃ w,p ∣ w * v - 1:=inv_ex hp (fun h0=>h (Int.dvd_of_emod_eq_zero h0))
theorem not_dvd_one {p : Int} (hp : isP p) : ¬ p ∣ 1:=by
  intro h
  have hb:=isP_bd hp
  have:=dvd_zero (p:=p) (x:=1) (by omega) h
  omega
theorem unit_nd {p a b : Int} (hp : isP p) (h : p ∣ a * b - 1) : ¬ p ∣ a:=by
  rintro ⟨k,rfl⟩
  obtain ⟨n,hn⟩:=h
  exact not_dvd_one hp ⟨k * b - n,by grind⟩
theorem cancel {p v y : Int} (hp : isP p) (h : ¬ p ∣ v) (hy : p ∣ y * v) : p ∣ y:=by
  obtain ⟨w,n,hn⟩:=unit_ex hp h
  obtain ⟨k,hk⟩:=hy
  exact ⟨w * k - n * y,by grind⟩
theorem nd_mul {p a b : Int} (hp : isP p) (ha : ¬ p ∣ a) (hb : ¬ p ∣ b) : ¬ p ∣ a * b:=fun h=>ha (cancel hp hb h)
end Go.Arcs
namespace Go.Arcs
open Go Go.Ab Go.Proofs
end Go.Arcs
namespace Go.Arcs
open Go Go.Ab Go.Proofs
end Go.Arcs
