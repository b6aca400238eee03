/- Frames: contracts. -/
import Derived.Test.YtffapeomfjfedaaXD
set_option linter.unusedVariables false
set_option linter.unusedSimpArgs false
namespace Go.Arcs
open Go Go.Ab Go.Proofs
def colsF (a b c : TripD) : MatD:=((a.1,b.1,c.1,()),(a.2.1,b.2.1,c.2.1,()),(a.2.2.1,b.2.2.1,c.2.2.1,()),())
end Go.Arcs
namespace Go.Arcs
open Go Go.Ab Go.Proofs
end Go.Arcs
namespace Go.Arcs
open Go Go.Ab Go.Proofs
theorem eta3 (x : TripD) : ((x.1,x.2.1,x.2.2.1,()) : TripD) = x:=rfl
end Go.Arcs
namespace Go.Arcs
open Go Go.Ab Go.Proofs
end Go.Arcs
namespace Go.Arcs
open Go Go.Ab Go.Proofs
end Go.Arcs
namespace Go.Arcs
open Go Go.Ab Go.Proofs
end Go.Arcs
namespace Go.Arcs
open Go Go.Ab Go.Proofs
end Go.Arcs
namespace Go.Arcs
open Go Go.Ab Go.Proofs
def Ce (p x y:Int) : Prop:=p ∣ x - y
theorem Ce.rfl' {p x : Int} : Ce p x x:=⟨0,by omega⟩
theorem Ce.symm {p x y : Int} (h : Ce p x y) : Ce p y x:=by obtain ⟨k,hk⟩:=h;exact ⟨-k,by rw [Int.mul_neg];omega⟩
theorem Ce.trans {p x y z : Int} (h : Ce p x y) (g : Ce p y z) : Ce p x z:=by
 obtain ⟨k,hk⟩:=h;obtain ⟨l,hl⟩:=g;exact ⟨k + l,by rw [Int.mul_add];omega⟩
theorem Ce.add {p x y z w : Int} (h : Ce p x y) (g : Ce p z w) : Ce p (x + z) (y + w):=by
 obtain ⟨k,hk⟩:=h;obtain ⟨l,hl⟩:=g;exact ⟨k + l,by rw [Int.mul_add];omega⟩
theorem Ce.sub {p x y z w : Int} (h : Ce p x y) (g : Ce p z w) : Ce p (x - z) (y - w):=by
 obtain ⟨k,hk⟩:=h;obtain ⟨l,hl⟩:=g;exact ⟨k - l,by rw [Int.mul_sub];omega⟩
theorem Ce.mul {p x y z w : Int} (h : Ce p x y) (g : Ce p z w) : Ce p (x * z) (y * w):=by
 obtain ⟨k,hk⟩:=h;obtain ⟨l,hl⟩:=g;exact ⟨k * z + y * l,by grind⟩
theorem Ce.mod {p x : Int} : Ce p (x % p) x:=by
 have e:=Int.emod_add_mul_ediv x p
 exact ⟨-(x / p),by rw [Int.mul_neg];omega⟩
def CV (p:Int) (x y : TripD) : Prop:=Ce p x.1 y.1 ∧ Ce p x.2.1 y.2.1 ∧ Ce p x.2.2.1 y.2.2.1
def CM (p:Int) (m n : MatD) : Prop:=CV p m.1 n.1 ∧ CV p m.2.1 n.2.1 ∧ CV p m.2.2.1 n.2.2.1
theorem CV.trans {p : Int} {x y z : TripD} (h : CV p x y) (g : CV p y z) : CV p x z:=⟨h.1.trans g.1,h.2.1.trans g.2.1,h.2.2.trans g.2.2⟩
theorem CV.symm {p : Int} {x y : TripD} (h : CV p x y) : CV p y x:=⟨h.1.symm,h.2.1.symm,h.2.2.symm⟩
theorem CM.trans {p : Int} {x y z : MatD} (h : CM p x y) (g : CM p y z) : CM p x z:=⟨h.1.trans g.1,h.2.1.trans g.2.1,h.2.2.trans g.2.2⟩
theorem mulV_cong {p : Int} {m n : MatD} {x y : TripD} (h : CM p m n) (g : CV p x y) : CV p (mulV m x) (mulV n y) :=
 have r {a b : TripD} (h : CV p a b) : Ce p (a.1 * x.1 + a.2.1 * x.2.1 + a.2.2.1 * x.2.2.1) (b.1 * y.1 + b.2.1 * y.2.1 + b.2.2.1 * y.2.2.1) :=
  ((h.1.mul g.1).add (h.2.1.mul g.2.1)).add (h.2.2.mul g.2.2)
 ⟨r h.1,r h.2.1,r h.2.2⟩
def Pr (p:Int) (x y : TripD) : Prop:=∃ k,¬ p ∣ k ∧ CV p x (smul k y)
theorem Pr.of {p : Int} (hp : isP p) {x y : TripD} (h : CV p x y) : Pr p x y :=
 ⟨1,not_dvd_one hp,by simpa only [smul,Int.one_mul,eta3] using h⟩
theorem Pr.trans {p : Int} (hp : isP p) {x y z : TripD} (h : Pr p x y) (g : Pr p y z) : Pr p x z:=by
 obtain ⟨k,hk,h1,h2,h3⟩:=h
 obtain ⟨l,hl,g1,g2,g3⟩:=g
 have r {a b c : Int} (h : Ce p a (k * b)) (g : Ce p b (l * c)) : Ce p a (k * l * c):=by
  rw [Int.mul_assoc];exact h.trans (Ce.rfl'.mul g)
 exact ⟨k * l,nd_mul hp hk hl,r h1 g1,r h2 g2,r h3 g3⟩
theorem Pr.symm {p : Int} (hp : isP p) {x y : TripD} (h : Pr p x y) : Pr p y x:=by
 obtain ⟨k,hk,h1,h2,h3⟩:=h
 obtain ⟨w,hw⟩:=unit_ex hp hk
 have r {a b : Int} (h : Ce p a (k * b)) : Ce p b (w * a):=by
  obtain ⟨n,hn⟩:=h
  obtain ⟨s,hs⟩:=hw
  exact ⟨-(s * b) - w * n,by grind⟩
 exact ⟨w,unit_nd hp hw,r h1,r h2,r h3⟩
theorem mulV_smul (m : MatD) (k:Int) (x : TripD) : mulV m (smul k x) = smul k (mulV m x):=by
 simp only [mulV,smul,Int.mul_add,Int.mul_left_comm]
theorem CM.refl {p : Int} {m : MatD} : CM p m m:=⟨⟨Ce.rfl',Ce.rfl',Ce.rfl'⟩,⟨Ce.rfl',Ce.rfl',Ce.rfl'⟩,⟨Ce.rfl',Ce.rfl',Ce.rfl'⟩⟩
theorem Pr.map {p : Int} (m : MatD) {x y : TripD} (h : Pr p x y) : Pr p (mulV m x) (mulV m y):=by
 obtain ⟨k,hk,h⟩:=h
 exact ⟨k,hk,by rw [← mulV_smul];exact mulV_cong CM.refl h⟩
theorem Pr.eqp {p a b : Int} (hp : isP p) (ha : inPt p a = true) (hb : inPt p b = true) (h : Pr p (pt p a) (pt p b)) : a = b:=by
 by_cases e : a = b
 ·exact e
 ·obtain ⟨k,hk,⟨n1,h1⟩,⟨n2,h2⟩,⟨n3,h3⟩⟩:=h
  have:=(indP hp (pt_mem hp ha) (pt_mem hp hb) (pt_neq hp ha hb e) (x:=1) (y:=-k) ⟨⟨n1,?_⟩,⟨n2,?_⟩,⟨n3,?_⟩⟩).1
  ·exact absurd this (not_dvd_one hp)
  ·simp only [lin,smul] at *;rw [← h1];grind
  ·simp only [lin,smul] at *;rw [← h2];grind
  ·simp only [lin,smul] at *;rw [← h3];grind
theorem det_iff {p : Int} {m : MatD} (hp : isP p) : detF p m ≠ 0 ↔ ¬ p ∣ detM m:=by
 constructor
 ·intro h hd
  exact det_ne h (Int.emod_eq_zero_of_dvd hd)
 ·intro h h0
  apply h
  have e : Ce p (detF p m) (detM m):=by
   unfold detF
   refine Ce.mod.trans ?_
   refine Ce.trans (((Ce.mod.mul Ce.rfl').add (Ce.mod.mul Ce.rfl')).add (Ce.mod.mul Ce.rfl')) ?_
   obtain ⟨⟨a1,a2,a3,_⟩,⟨b1,b2,b3,_⟩,⟨c1,c2,c3,_⟩,_⟩:=m
   exact ⟨0,by simp only [detM,colF,reduceIte,Int.reduceEq];grind⟩
  rw [h0] at e
  obtain ⟨k,hk⟩:=e
  exact ⟨-k,by rw [Int.mul_neg];omega⟩
def e1 : TripD:=(1,0,0,())
def e2 : TripD:=(0,1,0,())
def e3 : TripD:=(0,0,1,())
def e4 : TripD:=(1,1,1,())
theorem col_ne {p : Int} {x y z : Int} (hp : isP p) (h : strF p x y z = false) : ¬ p ∣ detM (colsF (pt p x) (pt p y) (pt p z)):=by
 rw [← det_iff hp]
 intro h0
 have : strF p x y z = true:=ieq_iff.2 h0
 rw [this] at h
 cases h
def trip (a b c : TripD) : Int:=detM (colsF a b c)
theorem trip_swap (a b c : TripD) : trip b a c = - trip a b c:=by
 simp only [trip,detM,colsF];grind
theorem trip_rot (a b c : TripD) : trip b c a = trip a b c:=by
 simp only [trip,detM,colsF];grind
theorem Pr.smul {p k : Int} (hk : ¬ p ∣ k) {x : TripD} : Pr p (smul k x) x:=⟨k,hk,⟨Ce.rfl',Ce.rfl',Ce.rfl'⟩⟩
end Go.Arcs
namespace Go.Arcs
open Go Go.Ab Go.Proofs
end Go.Arcs
namespace Go.Arcs
open Go Go.Ab Go.Proofs
theorem str_trip {p a b c : Int} (hp : isP p) : strF p a b c = true ↔ p ∣ trip (pt p a) (pt p b) (pt p c):=by
 constructor
 ·intro h
  by_cases hd : p ∣ trip (pt p a) (pt p b) (pt p c)
  ·exact hd
  ·exact absurd (ieq_iff.1 h) ((det_iff hp (m:=colsF (pt p a) (pt p b) (pt p c))).2 hd)
 ·intro h
  cases hs : strF p a b c with
  | true=>rfl
  | false=>exact absurd h (col_ne hp hs)
end Go.Arcs
