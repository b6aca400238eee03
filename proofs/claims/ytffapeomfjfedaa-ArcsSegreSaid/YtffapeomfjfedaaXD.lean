/- Maps of the plane: contracts. -/
import Derived.Test.YtffapeomfjfedaaXC
set_option linter.unusedVariables false
set_option linter.unusedSimpArgs false
namespace Go.Arcs
open Go Go.Ab Go.Proofs
abbrev MatD:=TripD × TripD × TripD × Unit
def colF (m : MatD) (j:Int) : TripD:=if j = 0 then (m.1.1,m.2.1.1,m.2.2.1.1,()) else if j = 1 then (m.1.2.1,m.2.1.2.1,m.2.2.1.2.1,()) else (m.1.2.2.1,m.2.1.2.2.1,m.2.2.1.2.2.1,())
def detF (p:Int) (m : MatD) : Int:=dotC p (crossF p (colF m 0) (colF m 1)) (colF m 2)
end Go.Arcs
namespace Go.Arcs
open Go Go.Ab Go.Proofs
end Go.Arcs
namespace Go.Arcs
open Go Go.Ab Go.Proofs
end Go.Arcs
namespace Go.Arcs
open Go Go.Ab Go.Proofs
end Go.Arcs
namespace Go.Arcs
open Go Go.Ab Go.Proofs
theorem low_tab2 : ∀ p ∈ ([2,3,5,7]:List Int),∀ a ∈ List.range p.toNat,∀ b ∈ List.range p.toNat,∀ c ∈ List.range p.toNat,
  (deqT ((a:Int),(b:Int),(c:Int),()) (0,0,0,()) || ((ptsC p).any (fun z=>deqT z (lowF p ((a:Int),(b:Int),(c:Int),()))) && inPt p (numC p (lowF p ((a:Int),(b:Int),(c:Int),()))))) = true:=by decide +kernel
theorem pts_notO : ∀ p ∈ ([2,3,5,7]:List Int),∀ x ∈ ptsC p,notOb x = true:=by decide +kernel
theorem low_spec {p : Int} (hp : isP p) {X : TripD} (hx : inR p X) (h0 : notO X) : lowF p X ∈ ptsC p ∧ inPt p (numC p (lowF p X)) = true ∧ pt p (numC p (lowF p X)) = lowF p X:=by
 have hm:=isP_mem hp
 obtain ⟨x,y,z,u⟩:=X
 cases u
 obtain ⟨h1,h2,h3⟩:=hx
 simp only at h1 h2 h3
 have t1:=low_tab p hm _ (rng_mem h1) _ (rng_mem h2) _ (rng_mem h3)
 have t2:=low_tab2 p hm _ (rng_mem h1) _ (rng_mem h2) _ (rng_mem h3)
 rw [Int.toNat_of_nonneg h1.1,Int.toNat_of_nonneg h2.1,Int.toNat_of_nonneg h3.1] at t1 t2
 have hd : deqT (x,y,z,()) (0,0,0,()) = false:=by
  rw [← Bool.not_eq_true,deqT_iff]
  intro h
  injection h with q1 q2
  injection q2 with q2 q3
  injection q3 with q3 q4
  exact h0 ⟨q1,q2,q3⟩
 rw [hd,Bool.false_or] at t1 t2
 rw [Bool.and_eq_true,List.any_eq_true] at t2
 obtain ⟨⟨w,hw,hw2⟩,h6⟩:=t2
 rw [deqT_iff] at hw2 t1
 exact ⟨by rw [← hw2];exact hw,h6,t1⟩
def detM (m : MatD) : Int:=m.1.1 * (m.2.1.2.1 * m.2.2.1.2.2.1 - m.2.2.1.2.1 * m.2.1.2.2.1) + m.2.1.1 * (m.2.2.1.2.1 * m.1.2.2.1 - m.1.2.1 * m.2.2.1.2.2.1) + m.2.2.1.1 * (m.1.2.1 * m.2.1.2.2.1 - m.2.1.2.1 * m.1.2.2.1)
def mulV (m : MatD) (x : TripD) : TripD:=(m.1.1 * x.1 + m.1.2.1 * x.2.1 + m.1.2.2.1 * x.2.2.1,m.2.1.1 * x.1 + m.2.1.2.1 * x.2.1 + m.2.1.2.2.1 * x.2.2.1,m.2.2.1.1 * x.1 + m.2.2.1.2.1 * x.2.1 + m.2.2.1.2.2.1 * x.2.2.1,())
def Z3 (p:Int) (X : TripD) : Prop:=p ∣ X.1 ∧ p ∣ X.2.1 ∧ p ∣ X.2.2.1
theorem det_ne {p : Int} {m : MatD} (h : detF p m ≠ 0) : detM m % p ≠ 0:=by
 intro hd
 apply h
 obtain ⟨n,hn⟩:=Int.dvd_of_emod_eq_zero hd
 obtain ⟨⟨a1,a2,a3,_⟩,⟨b1,b2,b3,_⟩,⟨c1,c2,c3,_⟩,_⟩:=m
 simp only [detM] at hn
 simp only [detF,dotC,crossF,colF]
 simp only [if_true,if_neg (show (1:Int) ≠ 0 by decide),if_neg (show (2:Int) ≠ 0 by decide),if_neg (show (2:Int) ≠ 1 by decide)]
 have e1:=Int.emod_add_mul_ediv (b1 * c2 - c1 * b2) p
 have e2:=Int.emod_add_mul_ediv (c1 * a2 - a1 * c2) p
 have e3:=Int.emod_add_mul_ediv (a1 * b2 - b1 * a2) p
 refine Int.emod_eq_zero_of_dvd ?_
 exact ⟨n - (b1 * c2 - c1 * b2) / p * a3 - (c1 * a2 - a1 * c2) / p * b3 - (a1 * b2 - b1 * a2) / p * c3,by grind⟩
theorem dvd_zero {p x : Int} (h : 0 ≤ x ∧ x < p) (hd : p ∣ x) : x = 0:=by rw [← Int.emod_eq_of_lt h.1 h.2];exact Int.emod_eq_zero_of_dvd hd
theorem Z3_zero {p : Int} {x : TripD} (h : inR p x) (hz : Z3 p x) : x.1 = 0 ∧ x.2.1 = 0 ∧ x.2.2.1 = 0:=by
 obtain ⟨h1,h2,h3⟩:=h
 obtain ⟨q1,q2,q3⟩:=hz
 exact ⟨dvd_zero h1 q1,dvd_zero h2 q2,dvd_zero h3 q3⟩
end Go.Arcs
namespace Go.Arcs
open Go Go.Ab Go.Proofs
def lin (u v:Int) (A B : TripD) : TripD:=(u * A.1 + v * B.1,u * A.2.1 + v * B.2.1,u * A.2.2.1 + v * B.2.2.1,())
def smul (k:Int) (A : TripD) : TripD:=(k * A.1,k * A.2.1,k * A.2.2.1,())
def Cv (p:Int) (X Y : TripD) : Prop:=p ∣ X.1 - Y.1 ∧ p ∣ X.2.1 - Y.2.1 ∧ p ∣ X.2.2.1 - Y.2.2.1
theorem unit_ex {p v : Int} (hp : isP p) (h : ¬ p ∣ v) : ∃ w,p ∣ w * v - 1:=inv_ex hp (fun h0=>h (Int.dvd_of_emod_eq_zero h0))
theorem not_dvd_one {p : Int} (hp : isP p) : ¬ p ∣ 1:=by
 intro h
 have hb:=isP_bd hp
 have:=dvd_zero (p:=p) (x:=1) (by omega) h
 omega
theorem unit_nd {p a b : Int} (hp : isP p) (h : p ∣ a * b - 1) : ¬ p ∣ a:=by
 rintro ⟨k,rfl⟩
 obtain ⟨n,hn⟩:=h
 exact not_dvd_one hp ⟨k * b - n,by grind⟩
theorem cancel {p v y : Int} (hp : isP p) (h : ¬ p ∣ v) (hy : p ∣ y * v) : p ∣ y:=by
 obtain ⟨w,n,hn⟩:=unit_ex hp h
 obtain ⟨k,hk⟩:=hy
 exact ⟨w * k - n * y,by grind⟩
theorem nd_mul {p a b : Int} (hp : isP p) (ha : ¬ p ∣ a) (hb : ¬ p ∣ b) : ¬ p ∣ a * b:=fun h=>ha (cancel hp hb h)
theorem ind2 {p w a1 a2 b1 b2 x y : Int} (hw : p ∣ w * (a1 * b2 - a2 * b1) - 1) (h1 : p ∣ x * a1 + y * b1) (h2 : p ∣ x * a2 + y * b2) : p ∣ x ∧ p ∣ y:=by
 obtain ⟨n,hn⟩:=hw
 obtain ⟨k1,h1⟩:=h1
 obtain ⟨k2,h2⟩:=h2
 exact ⟨⟨w * (k1 * b2 - k2 * b1) - n * x,by grind⟩,⟨w * (k2 * a1 - k1 * a2) - n * y,by grind⟩⟩
theorem indP {p : Int} (hp : isP p) {A B : TripD} (hA : A ∈ ptsC p) (hB : B ∈ ptsC p) (hAB : A ≠ B) {x y : Int} (h : Z3 p (lin x y A B)) : p ∣ x ∧ p ∣ y:=by
 have hm:=isP_mem hp
 have hx : crossF p A B ≠ (0,0,0,()):=by
  intro h
  have:=cross_tab p hm A hA B hB
  rw [h,Bool.or_eq_true,deqT_iff] at this
  rcases this with h | h
  ·exact hAB h
  ·exact absurd h (by decide)
 obtain ⟨a1,a2,a3,_⟩:=A
 obtain ⟨b1,b2,b3,_⟩:=B
 obtain ⟨h1,h2,h3⟩:=h
 simp only [lin] at h1 h2 h3
 by_cases k3 : (a1 * b2 - a2 * b1) % p = 0
 ·by_cases k2 : (a3 * b1 - a1 * b3) % p = 0
  ·by_cases k1 : (a2 * b3 - a3 * b2) % p = 0
   ·exact absurd (by simp only [crossF,k1,k2,k3]) hx
   ·obtain ⟨w,hw⟩:=inv_ex hp k1
    exact ind2 hw h2 h3
  ·obtain ⟨w,hw⟩:=inv_ex hp k2
   exact ind2 hw h3 h1
 ·obtain ⟨w,hw⟩:=inv_ex hp k3
  exact ind2 hw h1 h2
end Go.Arcs
namespace Go.Arcs
open Go Go.Ab Go.Proofs
theorem emod_dvd {p n c : Int} (h : n % p = c) : p ∣ c - n:=by
 have e:=Int.emod_add_mul_ediv n p
 exact ⟨-(n / p),by rw [Int.mul_neg];omega⟩
theorem cmb_lin {p : Int} {A B C : TripD} {u v : Int} (h : cmb p A B u v = C) : Cv p C (lin u v A B):=by
 subst h
 exact ⟨emod_dvd rfl,emod_dvd rfl,emod_dvd rfl⟩
theorem nd_of {p x : Int} (h : 0 ≤ x ∧ x < p) (h0 : x ≠ 0) : ¬ p ∣ x:=fun hd=>h0 (dvd_zero h hd)
theorem pt_neq {p : Int} (hp : isP p) {x y : Int} (hx : inPt p x = true) (hy : inPt p y = true) (hxy : x ≠ y) : pt p x ≠ pt p y:=by
 intro h
 have:=pt_ne hp hx hy hxy
 rw [h] at this
 have h2:=(deqT_iff (pt p y) (pt p y)).2 rfl
 unfold deqT at h2
 rw [h2] at this
 cases this
theorem low_cv {p : Int} (hp : isP p) {X : TripD} (hx : inR p X) (h0 : notO X) : ∃ l mu,p ∣ l * mu - 1 ∧ Cv p (lowF p X) (smul l X):=by
 obtain ⟨x,y,z,u⟩:=X
 have hf : rngP p (firstF (x,y,z,u)):=by
  obtain ⟨h1,h2,h3⟩:=hx
  simp only at h1 h2 h3
  simp only [firstF]
  by_cases k1 : x = 0
  ·rw [if_neg (by omega)]
   by_cases k2 : y = 0
   ·rw [if_neg (by omega)]
    have : z ≠ 0:=fun k3=>h0 ⟨k1,k2,k3⟩
    exact ⟨by omega,h3.2⟩
   ·rw [if_pos k2];exact ⟨by omega,h2.2⟩
  ·rw [if_pos k1];exact ⟨by omega,h1.2⟩
 generalize hF : firstF (x,y,z,u) = f at hf
 have hi : invF p f * f % p = 1:=by
  have h:=inv_tab p (isP_mem hp) _ (rng_mem ⟨by have:=hf.1;omega,hf.2⟩)
  rw [Int.toNat_of_nonneg (by have:=hf.1;omega),Bool.or_eq_true,ieq_iff,ieq_iff] at h
  rcases h with h | h
  ·have:=hf.1;omega
  ·exact h
 refine ⟨invF p f,f,?_,?_⟩
 ·have e:=Int.emod_add_mul_ediv (invF p f * f) p
  exact ⟨invF p f * f / p,by omega⟩
 ·simp only [lowF,smul,hF]
  have g : ∀ y : Int,p ∣ y * invF p f % p - invF p f * y:=by
   intro y
   rw [Int.mul_comm (invF p f) y]
   exact emod_dvd rfl
  exact ⟨g x,g y,g z⟩
end Go.Arcs
namespace Go.Arcs
open Go Go.Ab Go.Proofs
end Go.Arcs
