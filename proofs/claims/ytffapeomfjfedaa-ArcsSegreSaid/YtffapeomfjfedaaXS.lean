/- The law Segre: coordinates by three points. -/
import Derived.Test.YtffapeomfjfedaaXK
import Derived.Test.YtffapeomfjfedaaXJ
import Derived.Test.YtffapeomfjfedaaS1
import Derived.Test.YtffapeomfjfedaaS6
import Derived.Test.YtffapeomfjfedaaXI
set_option linter.unusedVariables false
set_option linter.unusedSimpArgs false
set_option maxRecDepth 100000
namespace Go.Arcs
open Go Go.Ab Go.Proofs
theorem minor1 (A B C P Q : TripD) : trip C A P * trip A B Q - trip A B P * trip C A Q = trip A B C * trip A P Q:=by
 obtain ⟨a0,a1,a2,⟨⟩⟩:=A;obtain ⟨b0,b1,b2,⟨⟩⟩:=B;obtain ⟨c0,c1,c2,⟨⟩⟩:=C;obtain ⟨p0,p1,p2,⟨⟩⟩:=P;obtain ⟨q0,q1,q2,⟨⟩⟩:=Q
 simp only [trip,detM,colsF]
 grind
theorem cramer1 (A B C P : TripD) : trip B C P * A.1 + trip C A P * B.1 + trip A B P * C.1 = trip A B C * P.1:=by
 simp only [trip,detM,colsF]
 grind
theorem cramer2 (A B C P : TripD) : trip B C P * A.2.1 + trip C A P * B.2.1 + trip A B P * C.2.1 = trip A B C * P.2.1:=by
 simp only [trip,detM,colsF]
 grind
theorem cramer3 (A B C P : TripD) : trip B C P * A.2.2.1 + trip C A P * B.2.2.1 + trip A B P * C.2.2.1 = trip A B C * P.2.2.1:=by
 simp only [trip,detM,colsF]
 grind
theorem trip_lin (A B C Q R : TripD) (x y z d:Int) (P : TripD) (h1 : x * A.1 + y * B.1 + z * C.1 = d * P.1) (h2 : x * A.2.1 + y * B.2.1 + z * C.2.1 = d * P.2.1) (h3 : x * A.2.2.1 + y * B.2.2.1 + z * C.2.2.1 = d * P.2.2.1) : x * trip A Q R + y * trip B Q R + z * trip C Q R = d * trip P Q R:=by
 simp only [trip,detM,colsF]
 grind
theorem trip_cyc {a b c : TripD} : trip b c a = trip a b c:=by
 simp only [trip,detM,colsF]
 grind
theorem det3 (A B C P Q R : TripD) : trip B C P * (trip C A Q * trip A B R - trip A B Q * trip C A R) + trip C A P * (trip A B Q * trip B C R - trip B C Q * trip A B R) + trip A B P * (trip B C Q * trip C A R - trip C A Q * trip B C R) = trip A B C * (trip A B C * trip P Q R):=by
 have m1:=minor1 A B C Q R
 have m2:=minor1 B C A Q R
 have m3:=minor1 C A B Q R
 have r1 : trip B C A = trip A B C:=trip_cyc
 have r2 : trip C A B = trip A B C:=by rw [← r1];exact trip_cyc
 rw [r1] at m2
 rw [r2] at m3
 have:=trip_lin A B C Q R _ _ _ _ P (cramer1 A B C P) (cramer2 A B C P) (cramer3 A B C P)
 rw [m1,m2,m3,← this]
 grind
theorem alg1 {u x v y D p k1 k2 k3 a b c x1 x2 x3 y1 y2 y3 : Int} (h1 : u * x1 - v * y1 = p * k1) (h2 : u * x2 - v * y2 = p * k2) (h3 : u * x3 - v * y3 = p * k3) (e1 : x1 * a + x2 * b + x3 * c = D * x) (e2 : y1 * a + y2 * b + y3 * c = D * y) : (u * x - v * y) * D = p * (k1 * a + k2 * b + k3 * c):=by grind
theorem alg2 {w u x v y p m n : Int} (hm : u * x - v * y = p * m) (hn : w * u - 1 = p * n) : x - w * v * y = p * (w * m - n * x):=by grind
theorem coord_Pr {p : Int} (hp : isP p) {A B C X Y : TripD} (hD : ¬ p ∣ trip A B C) {u v : Int} (hu : ¬ p ∣ u) (hv : ¬ p ∣ v) (h1 : p ∣ u * trip B C X - v * trip B C Y) (h2 : p ∣ u * trip C A X - v * trip C A Y) (h3 : p ∣ u * trip A B X - v * trip A B Y) : Pr p X Y:=by
 obtain ⟨w,hw⟩:=unit_ex hp hu
 obtain ⟨k1,h1⟩:=h1
 obtain ⟨k2,h2⟩:=h2
 obtain ⟨k3,h3⟩:=h3
 have key : ∀ {x y a b c : Int},trip B C X * a + trip C A X * b + trip A B X * c = trip A B C * x → trip B C Y * a + trip C A Y * b + trip A B Y * c = trip A B C * y → p ∣ x - w * v * y:=by
  intro x y a b c e1 e2
  have h : p ∣ (u * x - v * y) * trip A B C:=⟨k1 * a + k2 * b + k3 * c,alg1 h1 h2 h3 e1 e2⟩
  obtain ⟨m,hm⟩:=cancel hp hD h
  obtain ⟨n,hn⟩:=hw
  exact ⟨w * m - n * x,alg2 hm hn⟩
 exact ⟨w * v,nd_mul hp (unit_nd hp hw) hv,key (cramer1 A B C X) (cramer1 A B C Y),key (cramer2 A B C X) (cramer2 A B C Y),key (cramer3 A B C X) (cramer3 A B C Y)⟩
theorem pt_one {p a b : Int} (hp : isP p) (ha : inPt p a = true) (hb : inPt p b = true) (h : Pr p (pt p a) (pt p b)) : a = b:=by
 have h0:=pt_nz hp ha
 rw [← (nm_iff hp h0 ha).2 ⟨1,not_dvd_one hp,by refine ⟨⟨0,?_⟩,⟨0,?_⟩,⟨0,?_⟩⟩ <;> simp [smul]⟩]
 exact (nm_iff hp h0 hb).2 h
noncomputable def sN (p x z:Int) : Nat:=(x * invF p (z % p) % p).toNat
theorem nd_mod {p z : Int} (hp : isP p) (h : ¬ p ∣ z) : 0 < z % p ∧ z % p < p:=by
 have h7:=isP_bd hp
 have:=Int.emod_nonneg z (show p ≠ 0 by omega)
 have:=Int.emod_lt_of_pos z (show 0 < p by omega)
 have : z % p ≠ 0:=fun e=>h (Int.dvd_of_emod_eq_zero e)
 omega
theorem sN_spec {p x z : Int} (hp : isP p) (hz : ¬ p ∣ z) : (sN p x z:Int) < p ∧ p ∣ (sN p x z:Int) * z - x:=by
 have h7:=isP_bd hp
 obtain ⟨i1,i2,i3⟩:=inv_one hp (nd_mod hp hz)
 have h0:=Int.emod_nonneg (x * invF p (z % p)) (show p ≠ 0 by omega)
 have h1:=Int.emod_lt_of_pos (x * invF p (z % p)) (show 0 < p by omega)
 unfold sN
 rw [Int.toNat_of_nonneg h0]
 refine ⟨h1,?_⟩
 obtain ⟨a,ha⟩:=emod_sub (p:=p) (x:=x * invF p (z % p))
 obtain ⟨b,hb⟩:=emod_sub (p:=p) (x:=z)
 have hc:=emod_sub (p:=p) (x:=invF p (z % p) * (z % p))
 rw [i3] at hc
 obtain ⟨c,hc⟩:=hc
 exact ⟨a * z - x * c - x * invF p (z % p) * b,by grind⟩
theorem sN_pos {p x z : Int} (hp : isP p) (hz : ¬ p ∣ z) (hx : ¬ p ∣ x) : 1 ≤ sN p x z:=by
 obtain ⟨h1,h2⟩:=sN_spec (x:=x) hp hz
 by_cases h : sN p x z = 0
 ·rw [h] at h2
  exfalso;apply hx
  obtain ⟨k,hk⟩:=h2
  exact ⟨-k,by grind⟩
 ·omega
theorem dvd_nat {p : Int} {n : Nat} {x y : Nat} (hn : p = (n:Int)) (h : x % n = y % n) : p ∣ (x:Int) - (y:Int):=by
 subst hn
 refine Int.dvd_of_emod_eq_zero ?_
 have : ((x:Int) % (n:Int)) = ((y:Int) % (n:Int)):=by
  have e1 : ((x:Int) % (n:Int)) = ((x % n:Nat):Int):=by simp
  have e2 : ((y:Int) % (n:Int)) = ((y % n:Nat):Int):=by simp
  rw [e1,e2,h]
 exact Int.emod_eq_emod_iff_emod_sub_eq_zero.1 this
theorem nat_dvd {p : Int} {n : Nat} {x y : Nat} (hn : p = (n:Int)) (h : p ∣ (x:Int) - (y:Int)) : x % n = y % n:=by
 subst hn
 have h1 : (x:Int) % (n:Int) = (y:Int) % (n:Int):=Int.emod_eq_emod_iff_emod_sub_eq_zero.2 (Int.emod_eq_zero_of_dvd h)
 have e1 : ((x:Int) % (n:Int)) = ((x % n:Nat):Int):=by simp
 have e2 : ((y:Int) % (n:Int)) = ((y % n:Nat):Int):=by simp
 omega
end Go.Arcs
set_option maxRecDepth 100000
namespace Go.Arcs
open Go Go.Ab Go.Proofs
def Good (p:Nat) (M : List ST) : Prop:=∀ A x B,M = A ++ x :: B → stAdd p B x = true ∧ x ∈ stAll p
theorem go_leaf {p : Nat} : ∀ (n:Nat) (L N : List ST),stGo p n L = true → N.length = n → Good p (N ++ L) → stLeaf p (N ++ L) = true
 | 0,L,N,h,hl,_=>by
  obtain rfl : N = []:=List.eq_nil_of_length_eq_zero hl
  exact h
 | n + 1,L,N,h,hl,hg=>by
  have hne : N ≠ []:=fun e=>by subst e;cases hl
  obtain ⟨N',x,rfl⟩ : ∃ N' x,N = N' ++ [x]:=⟨N.dropLast,N.getLast hne,(List.dropLast_concat_getLast hne).symm⟩
  have hg' : Good p (N' ++ x :: L):=by
   have:=hg
   rwa [List.append_assoc] at this
  have h1:=hg' N' x L rfl
  rw [stGo] at h
  have h2:=List.all_eq_true.1 h x h1.2
  rw [h1.1,cond_true] at h2
  have:=go_leaf n (x :: L) N' h2 (by simpa using hl) hg'
  rw [List.append_assoc]
  exact this
theorem mem_stAll {p : Nat} {x : ST} (h1 : 1 ≤ x.1) (h2 : x.1 < p) (h3 : 1 ≤ x.2) (h4 : x.2 < p) : x ∈ stAll p:=by
 unfold stAll
 rw [List.mem_flatMap]
 exact ⟨x.1 - 1,List.mem_range.2 (by omega),List.mem_map.2 ⟨x.2 - 1,List.mem_range.2 (by omega),Prod.ext (by show x.1 - 1 + 1 = x.1;omega) (by show x.2 - 1 + 1 = x.2;omega)⟩⟩
theorem leaf_on {p : Nat} {u v : ST} {L : List ST} (h : stLeaf p (u :: v :: L) = true) {x : ST} (hx : x ∈ stAll p) : stOn p u v x = true ↔ x ∈ u :: v :: L:=by
 unfold stLeaf at h
 have h1:=Nat.eq_of_beq_eq_true (List.all_eq_true.1 h x hx)
 have hm : (u :: v :: L).any (fun y=>Nat.beq y.1 x.1 && Nat.beq y.2 x.2) = true ↔ x ∈ u :: v :: L:=by
  rw [List.any_eq_true]
  constructor
  ·rintro ⟨y,hy,he⟩
   rw [Bool.and_eq_true] at he
   have : y = x:=Prod.ext (Nat.eq_of_beq_eq_true he.1) (Nat.eq_of_beq_eq_true he.2)
   rw [← this];exact hy
  ·intro hq
   exact ⟨x,hq,by rw [Nat.beq_refl,Nat.beq_refl];rfl⟩
 rw [← hm]
 cases h2 : stOn p u v x <;> cases h3 : (u :: v :: L).any (fun y=>Nat.beq y.1 x.1 && Nat.beq y.2 x.2) <;> rw [h2,h3] at h1 <;> simp at h1 ⊢
theorem beq_no {x y : Nat} (h : x ≠ y) : (!Nat.beq x y) = true:=by
 cases hb : Nat.beq x y with
 | false=>rfl
 | true=>exact absurd (Nat.eq_of_beq_eq_true hb) h
theorem alg5 {p s P3 Q3 P1 Q1 a1 a2 D : Int} (e1 : s * P3 - P1 = p * a1) (e2 : s * Q3 - Q1 = p * a2) : P3 * Q1 - P1 * Q3 = p * (a1 * Q3 - a2 * P3):=by grind
theorem alg6 {p s P3 Q3 P1 Q1 a1 a2 : Int} (e1 : s * P3 - P1 = p * a1) (e2 : s * Q3 - Q1 = p * a2) : P1 * Q3 - P3 * Q1 = p * (a2 * P3 - a1 * Q3):=by grind
theorem alg7 {p s t s' t' P3 Q3 P1 P2 Q1 Q2 a1 a2 a3 a4 k : Int} (e1 : s * P3 - P1 = p * a1) (e2 : s' * Q3 - Q1 = p * a2) (e3 : t * P3 - P2 = p * a3) (e4 : t' * Q3 - Q2 = p * a4) (hk : s * t' - s' * t = p * k) : P1 * Q2 - P2 * Q1 = p * (k * P3 * Q3 - a1 * (t' * Q3) - P1 * a4 + a3 * (s' * Q3) + P2 * a2):=by grind
theorem alg8 {p s1 t1 s2 t2 s3 t3 z1 z2 z3 a1 a2 a3 a4 a5 a6 k : Int} (hk : (s1 * t2 + s2 * t3 + s3 * t1) - (s2 * t1 + s3 * t2 + s1 * t3) = p * k) : ∃ m,(s1 * z1 - p * a1) * ((t2 * z2 - p * a4) * z3 - z2 * (t3 * z3 - p * a6)) + (t1 * z1 - p * a2) * (z2 * (s3 * z3 - p * a5) - (s2 * z2 - p * a3) * z3) + z1 * ((s2 * z2 - p * a3) * (t3 * z3 - p * a6) - (t2 * z2 - p * a4) * (s3 * z3 - p * a5)) = p * m:=by
 have key : (s1 * z1) * ((t2 * z2) * z3 - z2 * (t3 * z3)) + (t1 * z1) * (z2 * (s3 * z3) - (s2 * z2) * z3) + z1 * ((s2 * z2) * (t3 * z3) - (t2 * z2) * (s3 * z3)) = ((s1 * t2 + s2 * t3 + s3 * t1) - (s2 * t1 + s3 * t2 + s1 * t3)) * (z1 * z2 * z3):=by grind
 rw [hk] at key
 exact ⟨k * (z1 * z2 * z3) + (- a1 * ((t2 * z2 - p * a4) * z3 - z2 * (t3 * z3 - p * a6)) + (s1 * z1) * (- a4 * z3 + z2 * a6) - a2 * (z2 * (s3 * z3 - p * a5) - (s2 * z2 - p * a3) * z3) + (t1 * z1) * (- z2 * a5 + a3 * z3) + z1 * (- a3 * (t3 * z3 - p * a6) - (s2 * z2) * a6 + a4 * (s3 * z3 - p * a5) + (t2 * z2) * a5)),by grind⟩
theorem st2_of {p : Int} (hp : isP p) {n : Nat} (hn : p = (n:Int)) {A B C P Q : TripD} (hD : ¬ p ∣ trip A B C) (hP : ¬ p ∣ trip A B P) (hQ : ¬ p ∣ trip A B Q) (h1 : ¬ p ∣ trip A P Q) (h2 : ¬ p ∣ trip B P Q) (h3 : ¬ p ∣ trip C P Q) :
  sN p (trip B C P) (trip A B P) ≠ sN p (trip B C Q) (trip A B Q) ∧ sN p (trip C A P) (trip A B P) ≠ sN p (trip C A Q) (trip A B Q) ∧
  (sN p (trip B C P) (trip A B P) * sN p (trip C A Q) (trip A B Q)) % n ≠ (sN p (trip B C Q) (trip A B Q) * sN p (trip C A P) (trip A B P)) % n:=by
 obtain ⟨_,a1,e1⟩:=sN_spec (x:=trip B C P) hp hP
 obtain ⟨_,a2,e2⟩:=sN_spec (x:=trip B C Q) hp hQ
 obtain ⟨_,a3,e3⟩:=sN_spec (x:=trip C A P) hp hP
 obtain ⟨_,a4,e4⟩:=sN_spec (x:=trip C A Q) hp hQ
 have m1:=minor1 A B C P Q
 have m2:=minor1 B C A P Q
 have m3:=minor1 C A B P Q
 have r1 : trip B C A = trip A B C:=trip_cyc
 have r2 : trip C A B = trip A B C:=by rw [← r1];exact trip_cyc
 rw [r1] at m2
 rw [r2] at m3
 generalize sN p (trip B C P) (trip A B P) = s at *
 generalize sN p (trip B C Q) (trip A B Q) = s' at *
 generalize sN p (trip C A P) (trip A B P) = t at *
 generalize sN p (trip C A Q) (trip A B Q) = t' at *
 refine ⟨fun h=>nd_mul hp hD h2 ?_,fun h=>nd_mul hp hD h1 ?_,fun h=>nd_mul hp hD h3 ?_⟩
 ·subst h
  rw [← m2]
  exact ⟨_,alg5 (D:=0) e1 e2⟩
 ·subst h
  rw [← m1]
  exact ⟨_,alg6 e3 e4⟩
 ·obtain ⟨k,hk⟩:=dvd_nat hn h
  rw [← m3]
  have hk' : (s:Int) * (t':Int) - (s':Int) * (t:Int) = p * k:=by rw [← hk];simp
  exact ⟨_,alg7 e1 e2 e3 e4 hk'⟩
theorem st3_of {p : Int} (hp : isP p) {n : Nat} (hn : p = (n:Int)) {A B C P Q R : TripD} (hD : ¬ p ∣ trip A B C) (hP : ¬ p ∣ trip A B P) (hQ : ¬ p ∣ trip A B Q) (hR : ¬ p ∣ trip A B R) (h : ¬ p ∣ trip P Q R) {s1 t1 s2 t2 s3 t3 : Nat}
  (d1 : p ∣ (s1:Int) * trip A B P - trip B C P) (d2 : p ∣ (t1:Int) * trip A B P - trip C A P) (d3 : p ∣ (s2:Int) * trip A B Q - trip B C Q) (d4 : p ∣ (t2:Int) * trip A B Q - trip C A Q) (d5 : p ∣ (s3:Int) * trip A B R - trip B C R) (d6 : p ∣ (t3:Int) * trip A B R - trip C A R) :
  (s1 * t2 + s2 * t3 + s3 * t1) % n ≠ (s2 * t1 + s3 * t2 + s1 * t3) % n:=by
 intro he
 obtain ⟨k,hk⟩:=dvd_nat hn he
 have hk' : ((s1:Int) * t2 + s2 * t3 + s3 * t1) - ((s2:Int) * t1 + s3 * t2 + s1 * t3) = p * k:=by rw [← hk];simp
 have hd:=det3 A B C P Q R
 refine nd_mul hp hD (nd_mul hp hD h) ?_
 rw [← hd]
 obtain ⟨a1,e1⟩:=d1
 obtain ⟨a2,e2⟩:=d2
 obtain ⟨a3,e3⟩:=d3
 obtain ⟨a4,e4⟩:=d4
 obtain ⟨a5,e5⟩:=d5
 obtain ⟨a6,e6⟩:=d6
 generalize trip A B P = z1 at *
 generalize trip A B Q = z2 at *
 generalize trip A B R = z3 at *
 have f1 : trip B C P = s1 * z1 - p * a1:=by omega
 have f2 : trip C A P = t1 * z1 - p * a2:=by omega
 have f3 : trip B C Q = s2 * z2 - p * a3:=by omega
 have f4 : trip C A Q = t2 * z2 - p * a4:=by omega
 have f5 : trip B C R = s3 * z3 - p * a5:=by omega
 have f6 : trip C A R = t3 * z3 - p * a6:=by omega
 rw [f1,f2,f3,f4,f5,f6]
 obtain ⟨m,hm⟩:=alg8 (z1:=z1) (z2:=z2) (z3:=z3) (a1:=a1) (a2:=a2) (a3:=a3) (a4:=a4) (a5:=a5) (a6:=a6) hk'
 exact ⟨m,hm⟩
end Go.Arcs
set_option maxRecDepth 100000
namespace Go.Arcs
open Go Go.Ab Go.Proofs
def qS (A B C : TripD) (u v : ST) : Nat → Int:=fun j=>((u.1:Int) * v.1 * v.2 - (u.1:Int) * v.1 * u.2) * qC C A A B j + ((u.2:Int) * v.2 * u.1 - (u.2:Int) * v.2 * v.1) * qC B C A B j + ((u.2:Int) * v.1 - (u.1:Int) * v.2) * qC B C C A j
theorem evQ_lin3 {f g h : Nat → Int} {a b c : Int} {X : TripD} : evQ (fun j=>a * f j + b * g j + c * h j) X = a * evQ f X + b * evQ g X + c * evQ h X:=by
 unfold evQ s6;grind
theorem evQ_qS {A B C X : TripD} {u v : ST} : evQ (qS A B C u v) X = ((u.1:Int) * v.1 * v.2 - (u.1:Int) * v.1 * u.2) * (trip C A X * trip A B X) + ((u.2:Int) * v.2 * u.1 - (u.2:Int) * v.2 * v.1) * (trip B C X * trip A B X) + ((u.2:Int) * v.1 - (u.1:Int) * v.2) * (trip B C X * trip C A X):=by
 unfold qS
 rw [evQ_lin3,evQ_lines,evQ_lines,evQ_lines]
theorem stOn_iff {p : Int} {n : Nat} (hn : p = (n:Int)) {u v x : ST} : stOn n u v x = true ↔ p ∣ ((u.1:Int) * v.1 * v.2 - (u.1:Int) * v.1 * u.2) * x.2 + ((u.2:Int) * v.2 * u.1 - (u.2:Int) * v.2 * v.1) * x.1 + ((u.2:Int) * v.1 - (u.1:Int) * v.2) * ((x.1:Int) * x.2):=by
 unfold stOn
 have e : ((u.1 * v.1 * v.2 * x.2 + u.2 * v.2 * u.1 * x.1 + u.2 * v.1 * (x.1 * x.2):Nat):Int) - ((u.1 * v.1 * u.2 * x.2 + u.2 * v.2 * v.1 * x.1 + u.1 * v.2 * (x.1 * x.2):Nat):Int) = ((u.1:Int) * v.1 * v.2 - (u.1:Int) * v.1 * u.2) * x.2 + ((u.2:Int) * v.2 * u.1 - (u.2:Int) * v.2 * v.1) * x.1 + ((u.2:Int) * v.1 - (u.1:Int) * v.2) * ((x.1:Int) * x.2):=by
  simp only [Int.natCast_add,Int.natCast_mul]
  grind
 rw [← e]
 constructor
 ·intro h;exact dvd_nat hn (Nat.eq_of_beq_eq_true h)
 ·intro h
  rw [nat_dvd hn h];exact Nat.beq_refl _
theorem ev_of_st {p : Int} {A B C X : TripD} {u v x : ST} (h1 : p ∣ (x.1:Int) * trip A B X - trip B C X) (h2 : p ∣ (x.2:Int) * trip A B X - trip C A X) {a b c : Int} :
  p ∣ trip A B X * trip A B X * (a * x.2 + b * x.1 + c * ((x.1:Int) * x.2)) - (a * (trip C A X * trip A B X) + b * (trip B C X * trip A B X) + c * (trip B C X * trip C A X)):=by
 obtain ⟨k1,e1⟩:=h1
 obtain ⟨k2,e2⟩:=h2
 generalize trip A B X = z at *
 generalize trip B C X = y1 at *
 generalize trip C A X = y2 at *
 exact ⟨a * z * k2 + b * z * k1 + c * (k1 * ((x.2:Int) * z) + y1 * k2),by grind⟩
theorem alg9 {z E F p k m : Int} (hk : z * z * E - F = p * k) (hm : F = p * m) : E * (z * z) = p * (k + m):=by grind
theorem alg10 {z E F p k m : Int} (hk : z * z * E - F = p * k) (hm : E = p * m) : F = p * (z * z * m - k):=by grind
theorem alg11 {s z zr y yr p w1 w2 : Int} (e1 : s * zr - yr = p * w1) (e2 : s * z - y = p * w2) : zr * y - z * yr = p * (w1 * z - w2 * zr):=by grind
theorem alg12 {a b c d p k : Int} (h : a * (d * 0) + b * (d * 0) + c * (d * d) = p * k) : c * (d * d) = p * k:=by grind
theorem nd_small {p x : Int} (h : -p < x ∧ x < p) (h0 : x ≠ 0) : ¬ p ∣ x:=by
 rintro ⟨c,hc⟩
 rcases Int.lt_trichotomy c 0 with h1 | h1 | h1
 ·have : p * c ≤ p * (-1):=Int.mul_le_mul_of_nonneg_left (by omega) (by omega)
  omega
 ·rw [h1,Int.mul_zero] at hc;exact h0 hc
 ·have : p * 1 ≤ p * c:=Int.mul_le_mul_of_nonneg_left (by omega) (by omega)
  omega
theorem ris_same {a b : List Int} (ha : ris a = true) (hb : ris b = true) (h : ∀ x,x ∈ a ↔ x ∈ b) : a = b :=
 ((List.perm_ext_iff_of_nodup (ris_nd ha) (ris_nd hb)).2 h).eq_of_pairwise (fun x y _ _ h1 h2=>by omega) (ris_pw ha) (ris_pw hb)
set_option maxHeartbeats 4000000 in
theorem segre_form {p : Int} (hp : isP p) (h57 : p = 5 ∨ p = 7) {a b c : Int} {rest : List Int} (hnd : (a :: b :: c :: rest).Nodup) (hin : ∀ x ∈ a :: b :: c :: rest,inPt p x = true)
  (nt : ∀ x y z : Int,x ∈ a :: b :: c :: rest → y ∈ a :: b :: c :: rest → z ∈ a :: b :: c :: rest → x ≠ y → x ≠ z → y ≠ z → ¬ p ∣ trip (pt p x) (pt p y) (pt p z)) (hl : (rest.length:Int) = p - 2) :
  ∃ q : Nat → Int,(∀ x,inPt p x = true → (p ∣ evQ q (pt p x) ↔ x ∈ a :: b :: c :: rest)) ∧ ∃ X : TripD,¬ p ∣ evQ q X:=by
 obtain ⟨n,hn⟩ : ∃ n : Nat,p = (n:Int):=⟨p.toNat,by omega⟩
 simp only [List.nodup_cons,List.mem_cons,not_or] at hnd
 obtain ⟨⟨ab,ac,ar⟩,⟨bc,br⟩,cr,hnr⟩:=hnd
 have ma : a ∈ a :: b :: c :: rest:=by simp
 have mb : b ∈ a :: b :: c :: rest:=by simp
 have mc : c ∈ a :: b :: c :: rest:=by simp
 have mr : ∀ r ∈ rest,r ∈ a :: b :: c :: rest:=fun r hr=>by simp [hr]
 have na : ∀ r ∈ rest,a ≠ r:=fun r hr e=>ar (e ▸ hr)
 have nb : ∀ r ∈ rest,b ≠ r:=fun r hr e=>br (e ▸ hr)
 have nc : ∀ r ∈ rest,c ≠ r:=fun r hr e=>cr (e ▸ hr)
 generalize hA : pt p a = A at *
 generalize hB : pt p b = B at *
 generalize hC : pt p c = C at *
 have hD : ¬ p ∣ trip A B C:=by rw [← hA,← hB,← hC];exact nt a b c ma mb mc ab ac bc
 have z1 : ∀ r ∈ rest,¬ p ∣ trip B C (pt p r):=fun r hr=>by rw [← hB,← hC];exact nt b c r mb mc (mr r hr) bc (nb r hr) (nc r hr)
 have z2 : ∀ r ∈ rest,¬ p ∣ trip C A (pt p r):=fun r hr=>by rw [← hC,← hA];exact nt c a r mc ma (mr r hr) (Ne.symm ac) (nc r hr) (na r hr)
 have z3 : ∀ r ∈ rest,¬ p ∣ trip A B (pt p r):=fun r hr=>by rw [← hA,← hB];exact nt a b r ma mb (mr r hr) ab (na r hr) (nb r hr)
 obtain ⟨st,hst⟩ : ∃ st : Int → ST,st = fun r=>(sN p (trip B C (pt p r)) (trip A B (pt p r)),sN p (trip C A (pt p r)) (trip A B (pt p r))):=⟨_,rfl⟩
 have s1 : ∀ r ∈ rest,((st r).1:Int) < p ∧ p ∣ ((st r).1:Int) * trip A B (pt p r) - trip B C (pt p r):=fun r hr=>by rw [hst];exact sN_spec hp (z3 r hr)
 have s2 : ∀ r ∈ rest,((st r).2:Int) < p ∧ p ∣ ((st r).2:Int) * trip A B (pt p r) - trip C A (pt p r):=fun r hr=>by rw [hst];exact sN_spec hp (z3 r hr)
 have s3 : ∀ r ∈ rest,1 ≤ (st r).1 ∧ 1 ≤ (st r).2:=fun r hr=>by rw [hst];exact ⟨sN_pos hp (z3 r hr) (z1 r hr),sN_pos hp (z3 r hr) (z2 r hr)⟩
 have sall : ∀ r ∈ rest,st r ∈ stAll n:=fun r hr=>mem_stAll (s3 r hr).1 (by have:=(s1 r hr).1;omega) (s3 r hr).2 (by have:=(s2 r hr).1;omega)
 have two : ∀ r r',r ∈ rest → r' ∈ rest → r ≠ r' → (st r).1 ≠ (st r').1 ∧ (st r).2 ≠ (st r').2 ∧ ((st r).1 * (st r').2) % n ≠ ((st r').1 * (st r).2) % n:=fun r r' hr hr' hne=>by
  rw [hst]
  exact st2_of hp hn hD (z3 r hr) (z3 r' hr') (by rw [← hA];exact nt a r r' ma (mr r hr) (mr r' hr') (na r hr) (na r' hr') hne) (by rw [← hB];exact nt b r r' mb (mr r hr) (mr r' hr') (nb r hr) (nb r' hr') hne) (by rw [← hC];exact nt c r r' mc (mr r hr) (mr r' hr') (nc r hr) (nc r' hr') hne)
 have three : ∀ r r' r'',r ∈ rest → r' ∈ rest → r'' ∈ rest → r ≠ r' → r ≠ r'' → r' ≠ r'' → st3 n (st r) (st r') (st r'') = true:=fun r r' r'' hr hr' hr'' h1 h2 h3=>by
  have:=st3_of hp hn hD (z3 r hr) (z3 r' hr') (z3 r'' hr'') (nt r r' r'' (mr r hr) (mr r' hr') (mr r'' hr'') h1 h2 h3) (s1 r hr).2 (s2 r hr).2 (s1 r' hr').2 (s2 r' hr').2 (s1 r'' hr'').2 (s2 r'' hr'').2
  exact beq_no this
 have hgood : Good n (rest.map st ++ []):=by
  rw [List.append_nil]
  intro L x M hM
  obtain ⟨l1,l2,e1,e2,e3⟩:=List.map_eq_append_iff.1 hM
  obtain ⟨r,l3,rfl,e4,e5⟩:=List.map_eq_cons_iff.1 e3
  have hr : r ∈ rest:=by rw [e1];simp
  have hsub : ∀ r' ∈ l3,r' ∈ rest ∧ r ≠ r':=fun r' hr'=>by
   refine ⟨by rw [e1];simp [hr'],fun e=>?_⟩
   rw [e1] at hnr
   have:=(List.nodup_append.1 hnr).2.1
   rw [List.nodup_cons] at this
   exact this.1 (e ▸ hr')
  refine ⟨?_,by rw [← e4];exact sall r hr⟩
  unfold stAdd
  rw [Bool.and_eq_true,← e4,← e5]
  refine ⟨List.all_eq_true.2 fun y hy=>?_,List.all_eq_true.2 fun y hy=>List.all_eq_true.2 fun w hw=>?_⟩
  ·obtain ⟨r',hr',rfl⟩:=List.mem_map.1 hy
   obtain ⟨t1,t2,t3⟩:=two r r' hr (hsub r' hr').1 (hsub r' hr').2
   unfold st2
   rw [beq_no t1,beq_no t2,beq_no t3];rfl
  ·obtain ⟨r1,hr1,rfl⟩:=List.mem_map.1 hy
   obtain ⟨r2,hr2,rfl⟩:=List.mem_map.1 hw
   by_cases h12 : r1 = r2
   ·rw [h12,Nat.beq_refl,Bool.true_or]
   ·rw [three r r1 r2 hr (hsub r1 hr1).1 (hsub r2 hr2).1 (hsub r1 hr1).2 (hsub r2 hr2).2 h12,Bool.or_true]
 have hleaf : stLeaf n (rest.map st) = true:=by
  have hgo : stGo n (rest.map st).length [] = true:=by
   rw [List.length_map]
   rcases h57 with h | h
   ·have e1 : n = 5:=by omega
    have e2 : rest.length = 3:=by omega
    rw [e1,e2];exact st_5
   ·have e1 : n = 7:=by omega
    have e2 : rest.length = 5:=by omega
    rw [e1,e2];exact st_7
  have:=go_leaf _ [] (rest.map st) hgo rfl hgood
  rwa [List.append_nil] at this
 obtain ⟨r1,r2,rs,hrest⟩ : ∃ r1 r2 rs,rest = r1 :: r2 :: rs:=by
  match rest,hl with
  | [],hl=>simp at hl;omega
  | [_],hl=>simp at hl;omega
  | r1 :: r2 :: rs,_=>exact ⟨r1,r2,rs,rfl⟩
 have m1 : r1 ∈ rest:=by rw [hrest];simp
 have m2 : r2 ∈ rest:=by rw [hrest];simp
 have h12 : r1 ≠ r2:=fun e=>by rw [hrest,e] at hnr;simp at hnr
 have hon : ∀ x : ST,x ∈ stAll n → (stOn n (st r1) (st r2) x = true ↔ x ∈ rest.map st):=fun x hx=>by
  have h:=hleaf
  rw [hrest,List.map_cons,List.map_cons] at h ⊢
  exact leaf_on h hx
 obtain ⟨t1,t2,t3⟩:=two r1 r2 m1 m2 h12
 have nS : ∀ r ∈ rest,¬ p ∣ ((st r).1:Int) ∧ ¬ p ∣ ((st r).2:Int):=fun r hr=>by
  have h1:=(s1 r hr).1
  have h2:=(s2 r hr).1
  have h3:=s3 r hr
  exact ⟨nd_small ⟨by omega,h1⟩ (by omega),nd_small ⟨by omega,h2⟩ (by omega)⟩
 have b1:=(s1 r1 m1).1
 have b2:=(s1 r2 m2).1
 have b3:=(s2 r1 m1).1
 have b4:=(s2 r2 m2).1
 have n1:=nS r1 m1
 have n2:=nS r2 m2
 generalize hu : st r1 = u at *
 generalize hv : st r2 = v at *
 have ca : ¬ p ∣ (u.1:Int) * v.1 * v.2 - (u.1:Int) * v.1 * u.2:=by
  rw [← Int.mul_sub]
  exact nd_mul hp (nd_mul hp n1.1 n2.1) (nd_small ⟨by omega,by omega⟩ (by omega))
 have cb : ¬ p ∣ (u.2:Int) * v.2 * u.1 - (u.2:Int) * v.2 * v.1:=by
  rw [← Int.mul_sub]
  exact nd_mul hp (nd_mul hp n1.2 n2.2) (nd_small ⟨by omega,by omega⟩ (by omega))
 have cc : ¬ p ∣ (u.2:Int) * v.1 - (u.1:Int) * v.2:=fun h=>by
  refine t3 (nat_dvd hn (x:=u.1 * v.2) (y:=v.1 * u.2) ?_)
  obtain ⟨k,hk⟩:=h
  exact ⟨-k,by rw [Int.natCast_mul,Int.natCast_mul];grind⟩
 refine ⟨qS A B C u v,fun x hx=>⟨fun h=>?_,fun h=>?_⟩,?_⟩
 ·rw [evQ_qS] at h
  have same : ∀ {y : Int} {k l : Int},y ∈ a :: b :: c :: rest → ¬ p ∣ k → ¬ p ∣ l → p ∣ k * trip B C (pt p x) - l * trip B C (pt p y) → p ∣ k * trip C A (pt p x) - l * trip C A (pt p y) → p ∣ k * trip A B (pt p x) - l * trip A B (pt p y) → x ∈ a :: b :: c :: rest:=fun {y k l} hy hk hl' q1 q2 q3=>by
   rw [pt_one hp hx (hin y hy) (coord_Pr hp hD hk hl' q1 q2 q3)];exact hy
  have hX0:=pt_nz hp hx
  have dv : ∀ {y1 y2 y3 q1 q2 q3 d z : Int},q1 * y1 + q2 * y2 + q3 * y3 = d * z → p ∣ q1 → p ∣ q2 → p ∣ q3 → p ∣ z * d:=fun {y1 y2 y3 q1 q2 q3 d z} e h1 h2 h3=>by
   obtain ⟨k1,h1⟩:=h1
   obtain ⟨k2,h2⟩:=h2
   obtain ⟨k3,h3⟩:=h3
   exact ⟨k1 * y1 + k2 * y2 + k3 * y3,by rw [h1,h2,h3] at e;grind⟩
  have nz3 : ¬ (p ∣ trip B C (pt p x) ∧ p ∣ trip C A (pt p x) ∧ p ∣ trip A B (pt p x)):=fun ⟨q1,q2,q3⟩ =>
   hX0 ⟨cancel hp hD (dv (cramer1 A B C (pt p x)) q1 q2 q3),cancel hp hD (dv (cramer2 A B C (pt p x)) q1 q2 q3),cancel hp hD (dv (cramer3 A B C (pt p x)) q1 q2 q3)⟩
  have d0 : ∀ {k m : Int},p ∣ m → p ∣ k * m - 0:=fun {k m} ⟨w,hw⟩=>⟨k * w,by rw [hw];grind⟩
  have rD : trip B C A = trip A B C:=trip_cyc
  have rD' : trip C A B = trip A B C:=by rw [← rD];exact trip_cyc
  by_cases q3 : p ∣ trip A B (pt p x)
  ·have hm : p ∣ (trip B C (pt p x) * trip C A (pt p x)) * ((u.2:Int) * v.1 - (u.1:Int) * v.2):=by
    obtain ⟨k,hk⟩:=h
    obtain ⟨m,hm⟩:=q3
    exact ⟨k - ((u.1:Int) * v.1 * v.2 - (u.1:Int) * v.1 * u.2) * (trip C A (pt p x) * m) - ((u.2:Int) * v.2 * u.1 - (u.2:Int) * v.2 * v.1) * (trip B C (pt p x) * m),by rw [hm] at hk;grind⟩
   have hm:=cancel hp cc hm
   by_cases q1 : p ∣ trip B C (pt p x)
   ·have q2 : ¬ p ∣ trip C A (pt p x):=fun q2=>nz3 ⟨q1,q2,q3⟩
    refine same mb hD q2 ?_ ?_ ?_
    ·rw [hB,trip_1,Int.mul_zero];exact d0 q1
    ·rw [hB,rD'];exact ⟨0,by grind⟩
    ·rw [hB,trip_2,Int.mul_zero];exact d0 q3
   ·have q2 : p ∣ trip C A (pt p x):=cancel hp q1 (by rw [Int.mul_comm];exact hm)
    refine same ma hD q1 ?_ ?_ ?_
    ·rw [hA,rD];exact ⟨0,by grind⟩
    ·rw [hA,trip_2,Int.mul_zero];exact d0 q2
    ·rw [hA,trip_1,Int.mul_zero];exact d0 q3
  ·by_cases q1 : p ∣ trip B C (pt p x)
   ·have hm : p ∣ (trip C A (pt p x) * trip A B (pt p x)) * ((u.1:Int) * v.1 * v.2 - (u.1:Int) * v.1 * u.2):=by
     obtain ⟨k,hk⟩:=h
     obtain ⟨m,hm⟩:=q1
     exact ⟨k - ((u.2:Int) * v.2 * u.1 - (u.2:Int) * v.2 * v.1) * (m * trip A B (pt p x)) - ((u.2:Int) * v.1 - (u.1:Int) * v.2) * (m * trip C A (pt p x)),by rw [hm] at hk;grind⟩
    have q2:=cancel hp q3 (cancel hp ca hm)
    refine same mc hD q3 ?_ ?_ ?_
    ·rw [hC,trip_2,Int.mul_zero];exact d0 q1
    ·rw [hC,trip_1,Int.mul_zero];exact d0 q2
    ·rw [hC];exact ⟨0,by grind⟩
   ·by_cases q2 : p ∣ trip C A (pt p x)
    ·exfalso
     have hm : p ∣ (trip B C (pt p x) * trip A B (pt p x)) * ((u.2:Int) * v.2 * u.1 - (u.2:Int) * v.2 * v.1):=by
      obtain ⟨k,hk⟩:=h
      obtain ⟨m,hm⟩:=q2
      exact ⟨k - ((u.1:Int) * v.1 * v.2 - (u.1:Int) * v.1 * u.2) * (m * trip A B (pt p x)) - ((u.2:Int) * v.1 - (u.1:Int) * v.2) * (trip B C (pt p x) * m),by rw [hm] at hk;grind⟩
     exact q1 (cancel hp q3 (cancel hp cb hm))
    ·obtain ⟨g1,g2⟩:=sN_spec (x:=trip B C (pt p x)) hp q3
     obtain ⟨g3,g4⟩:=sN_spec (x:=trip C A (pt p x)) hp q3
     have g5:=sN_pos hp q3 q1
     have g6:=sN_pos hp q3 q2
     generalize sN p (trip B C (pt p x)) (trip A B (pt p x)) = s at *
     generalize sN p (trip C A (pt p x)) (trip A B (pt p x)) = t at *
     have hxa : ((s,t) : ST) ∈ stAll n:=mem_stAll g5 (by show s < n;omega) g6 (by show t < n;omega)
     have hxo : stOn n u v (s,t) = true:=(stOn_iff hn).2 (by
      have he:=ev_of_st (A:=A) (B:=B) (C:=C) (X:=pt p x) (u:=u) (v:=v) (x:=(s,t)) (a:=(u.1:Int) * v.1 * v.2 - (u.1:Int) * v.1 * u.2) (b:=(u.2:Int) * v.2 * u.1 - (u.2:Int) * v.2 * v.1) (c:=(u.2:Int) * v.1 - (u.1:Int) * v.2) g2 g4
      obtain ⟨k,hk⟩:=he
      obtain ⟨m,hm⟩:=h
      exact cancel hp (nd_mul hp q3 q3) ⟨k + m,alg9 hk hm⟩)
     obtain ⟨r,hr,her⟩:=List.mem_map.1 ((hon _ hxa).1 hxo)
     have k1:=(s1 r hr).2
     have k2:=(s2 r hr).2
     rw [her] at k1 k2
     refine same (mr r hr) (z3 r hr) q3 ?_ ?_ ⟨0,by grind⟩
     ·obtain ⟨w1,e1⟩:=k1
      obtain ⟨w2,e2⟩:=g2
      exact ⟨_,alg11 e1 e2⟩
     ·obtain ⟨w1,e1⟩:=k2
      obtain ⟨w2,e2⟩:=g4
      exact ⟨_,alg11 e1 e2⟩
 ·rw [evQ_qS]
  rcases List.mem_cons.1 h with rfl | h
  ·rw [hA,trip_1 (A:=A) (B:=B),trip_2 (A:=C) (B:=A)];exact ⟨0,by grind⟩
  ·rcases List.mem_cons.1 h with rfl | h
   ·rw [hB,trip_2 (A:=A) (B:=B),trip_1 (A:=B) (B:=C)];exact ⟨0,by grind⟩
   ·rcases List.mem_cons.1 h with rfl | hr
    ·rw [hC,trip_1 (A:=C) (B:=A),trip_2 (A:=B) (B:=C)];exact ⟨0,by grind⟩
    ·have hxo:=(stOn_iff hn).1 ((hon _ (sall x hr)).2 (List.mem_map.2 ⟨x,hr,rfl⟩))
     obtain ⟨k,hk⟩:=ev_of_st (A:=A) (B:=B) (C:=C) (X:=pt p x) (u:=u) (v:=v) (x:=st x) (a:=(u.1:Int) * v.1 * v.2 - (u.1:Int) * v.1 * u.2) (b:=(u.2:Int) * v.2 * u.1 - (u.2:Int) * v.2 * v.1) (c:=(u.2:Int) * v.1 - (u.1:Int) * v.2) (s1 x hr).2 (s2 x hr).2
     obtain ⟨m,hm⟩:=hxo
     exact ⟨_,alg10 hk hm⟩
 ·refine ⟨lin 1 1 A B,?_⟩
  rw [evQ_qS]
  have e1 : trip B C (lin 1 1 A B) = trip A B C:=by simp only [trip,detM,colsF,lin];grind
  have e2 : trip C A (lin 1 1 A B) = trip A B C:=by simp only [trip,detM,colsF,lin];grind
  have e3 : trip A B (lin 1 1 A B) = 0:=by simp only [trip,detM,colsF,lin];grind
  rw [e1,e2,e3]
  intro hd
  refine nd_mul hp cc (nd_mul hp hD hD) ?_
  obtain ⟨k,hk⟩:=hd
  exact ⟨k,alg12 hk⟩
end Go.Arcs
set_option maxRecDepth 100000
namespace Go.Arcs
open Go Go.Ab Go.Proofs
theorem on_quad {p : Int} {c : A6D} {x : Int} : onC p c x = true ↔ p ∣ quad c (pt p x):=by
 unfold onC
 rw [ieq_iff]
 exact ⟨Int.dvd_of_emod_eq_zero,Int.emod_eq_zero_of_dvd⟩
theorem quad_lin (c : A6D) (A B : TripD) (u v:Int) : quad c (lin u v A B) = u * u * quad c A + v * v * quad c B + u * v * pol c A B:=by
 simp only [quad,pol,lin]
 grind
theorem quad_Cv {p : Int} {c : A6D} {X Y : TripD} (h : Cv p X Y) : p ∣ quad c X - quad c Y:=by
 obtain ⟨h1,h2,h3⟩:=h
 have g1 : Ce p X.1 Y.1:=h1
 have g2 : Ce p X.2.1 Y.2.1:=h2
 have g3 : Ce p X.2.2.1 Y.2.2.1:=h3
 exact (((((Ce.rfl'.mul (g1.mul g1)).add (Ce.rfl'.mul (g2.mul g2))).add (Ce.rfl'.mul (g3.mul g3))).add (Ce.rfl'.mul (g1.mul g2))).add (Ce.rfl'.mul (g1.mul g3))).add (Ce.rfl'.mul (g2.mul g3))
theorem str_lin {p a b d : Int} (hp : isP p) (ha : inPt p a = true) (hb : inPt p b = true) (hd : inPt p d = true) (hab : a ≠ b) (had : a ≠ d) (hbd : b ≠ d) (hs : strF p a b d = true) : ∃ u v,¬ p ∣ u ∧ ¬ p ∣ v ∧ Cv p (pt p d) (lin u v (pt p a) (pt p b)):=by
 obtain ⟨e1,e2,e3⟩:=parts_spec hp (pt_mem hp ha) (pt_mem hp hb) (pt_mem hp hd) (pt_neq hp ha hb hab) (pt_neq hp ha hd had) (pt_neq hp hb hd hbd) (ieq_iff.1 hs)
 obtain ⟨r1,r2⟩:=parts_rng hp (a:=pt p a) (b:=pt p b) (c:=pt p d)
 exact ⟨_,_,nd_of r1 e2,nd_of r2 e3,cmb_lin e1⟩
theorem alg3 {p u v k1 k2 k3 k4 z : Int} (h : p * k3 - (u * u * (p * k1) + v * v * (p * k2) + u * v * z) = p * k4) : z * (u * v) = p * (k3 - k4 - u * u * k1 - v * v * k2):=by grind
theorem alg4 {p u v k1 k2 k5 k6 z : Int} (h : z - (u * u * (p * k1) + v * v * (p * k2) + u * v * (p * k6)) = p * k5) : z = p * (k5 + u * u * k1 + v * v * k2 + u * v * k6):=by grind
theorem conic_line {p a b d x : Int} {c : A6D} (hp : isP p) (ha : inPt p a = true) (hb : inPt p b = true) (hd : inPt p d = true) (hab : a ≠ b) (had : a ≠ d) (hbd : b ≠ d) (hs : strF p a b d = true) (qa : onC p c a = true) (qb : onC p c b = true) (qd : onC p c d = true)
  (hx : inPt p x = true) (hxs : strF p a b x = true) : onC p c x = true:=by
 by_cases xa : a = x
 ·rw [← xa];exact qa
 by_cases xb : b = x
 ·rw [← xb];exact qb
 obtain ⟨u,v,nu,nv,hl⟩:=str_lin hp ha hb hd hab had hbd hs
 obtain ⟨u',v',_,_,hl'⟩:=str_lin hp ha hb hx hab xa xb hxs
 rw [on_quad] at qa qb qd ⊢
 have h1:=quad_Cv (c:=c) hl
 have h2:=quad_Cv (c:=c) hl'
 rw [quad_lin] at h1 h2
 obtain ⟨k1,e1⟩:=qa
 obtain ⟨k2,e2⟩:=qb
 obtain ⟨k3,e3⟩:=qd
 obtain ⟨k4,e4⟩:=h1
 obtain ⟨k5,e5⟩:=h2
 rw [e1,e2,e3] at e4
 rw [e1,e2] at e5
 obtain ⟨k6,e6⟩ : p ∣ pol c (pt p a) (pt p b):=cancel hp (nd_mul hp nu nv) ⟨k3 - k4 - u * u * k1 - v * v * k2,alg3 e4⟩
 rw [e6] at e5
 exact ⟨k5 + u' * u' * k1 + v' * v' * k2 + u' * v' * k6,alg4 e5⟩
theorem count_imp {α : Type} {P Q : α → Bool} : ∀ {l : List α},(∀ x ∈ l,P x = true → Q x = true) → l.countP Q = l.countP P → ∀ x ∈ l,Q x = true → P x = true
 | [],_,_,x,hx,_=>by cases hx
 | y :: l,h,he,x,hx,hq=>by
  have hle : ∀ {l : List α},(∀ x ∈ l,P x = true → Q x = true) → l.countP P ≤ l.countP Q:=fun {l} h=>List.countP_mono_left h
  have h' : ∀ x ∈ l,P x = true → Q x = true:=fun z hz=>h z (List.mem_cons_of_mem _ hz)
  have h1:=hle h'
  rw [List.countP_cons,List.countP_cons] at he
  cases hP : P y with
  | true =>
   have hQ:=h y (List.mem_cons_self ..) hP
   rw [hP,hQ] at he
   rcases List.mem_cons.1 hx with rfl | hx
   ·exact hP
   ·exact count_imp h' (by simpa using he) x hx hq
  | false =>
   cases hQ : Q y with
   | true=>rw [hP,hQ] at he;simp at he;omega
   | false =>
    rw [hP,hQ] at he
    rcases List.mem_cons.1 hx with rfl | hx
    ·rw [hQ] at hq;cases hq
    ·exact count_imp h' (by simpa using he) x hx hq
theorem count_get {α : Type} {l : List α} {d : α} {f : α → Bool} : (List.range l.length).countP (fun i=>f (l.getD i d)) = l.countP f:=by
 have e : (List.range l.length).map (fun i=>l.getD i d) = l:=by
  refine List.ext_getElem (by simp) fun i h1 h2=>?_
  rw [List.getElem_map,List.getElem_range,List.getD_eq_getElem?_getD,List.getElem?_eq_getElem h2];rfl
 conv=>rhs;rw [← e]
 rw [List.countP_map];rfl
theorem line_full {p a b d : Int} {c : A6D} (hp : isP p) (hl : ((crvF p c).length:Int) = p + 1) (ha : a ∈ crvF p c) (hb : b ∈ crvF p c) (hd : d ∈ crvF p c) (hab : a ≠ b) (had : a ≠ d) (hbd : b ≠ d) (hs : strF p a b d = true) : ∀ x ∈ crvF p c,strF p a b x = true:=by
 obtain ⟨ia,qa⟩:=crv_mem hp a ha
 obtain ⟨ib,qb⟩:=crv_mem hp b hb
 obtain ⟨id',qd⟩:=crv_mem hp d hd
 have hN:=pts_len p (isP_mem hp)
 obtain ⟨jin,_,_⟩:=join_on hp ia ib hab
 have hin : ∀ x : Nat,x < (ptsC p).length → inPt p (x:Int) = true:=fun x hx=>inPt_iff.2 ⟨Int.natCast_nonneg _,by omega⟩
 have hst : ∀ x : Nat,x < (ptsC p).length → strF p a b (x:Int) = ieq (dotC p (pt p (x:Int)) (pt p (thrF p a b))) 0:=fun x hx=>by
  rw [str_on hp ia ib (hin x hx) hab,← thr_join hp ia ib hab];rfl
 have c1 : (List.range (ptsC p).length).countP (fun (x:Nat)=>onC p c (x:Int)) = (crvF p c).length:=by
  unfold crvF flt
  rw [List.length_map,List.countP_eq_length_filter]
 have c2 : ((List.range (ptsC p).length).countP (fun (x:Nat)=>strF p a b (x:Int)):Int) = p + 1:=by
  have h1:=line_tab p (isP_mem hp) _ (pt_mem hp jin)
  rw [← count_get (d:=((0,0,0,()) : TripD))] at h1
  rw [← h1]
  congr 1
  refine List.countP_congr fun x hx=>?_
  rw [hst x (List.mem_range.1 hx)];rfl
 intro x hx
 obtain ⟨ix,qx⟩:=crv_mem hp x hx
 have hx0:=inPt_iff.1 ix
 have:=count_imp (P:=fun (x:Nat)=>strF p a b (x:Int)) (Q:=fun (x:Nat)=>onC p c (x:Int)) (l:=List.range (ptsC p).length) (fun y hy h=>conic_line hp ia ib id' hab had hbd hs qa qb qd (hin y (List.mem_range.1 hy)) h) (by omega) x.toNat (List.mem_range.2 (by omega)) (by
  show onC p c ((x.toNat:Nat):Int) = true
  rw [Int.toNat_of_nonneg hx0.1];exact qx)
 have e : strF p a b ((x.toNat:Nat):Int) = true:=this
 rwa [Int.toNat_of_nonneg hx0.1] at e
theorem segre_two {p : Int} {c : A6D} (hp : isP p) (h2 : p ≠ 2) (hl : ((crvF p c).length:Int) = p + 1) : arcF p (crvF p c) = !((crvF p c).all fun x=>onF p x (thrF p ((crvF p c).getD 0 0) ((crvF p c).getD 1 0))):=by
 have h7:=isP_bd hp
 have hnd:=ris_nd (crv_ris (p:=p) (c:=c))
 have hmem:=fun x h=>crv_mem hp (c:=c) x h
 have hfull:=fun {a b d} h1 h2 h3 h4 h5 h6 h7=>line_full (c:=c) (a:=a) (b:=b) (d:=d) hp hl h1 h2 h3 h4 h5 h6 h7
 generalize crvF p c = S at *
 have hg : ∀ i,i < S.length → S.getD i 0 ∈ S:=fun i hi=>by
  rw [List.getD_eq_getElem?_getD,List.getElem?_eq_getElem hi];exact List.getElem_mem _
 have hne : ∀ i j,i < S.length → j < S.length → i ≠ j → S.getD i 0 ≠ S.getD j 0:=fun i j hi hj hij e=>by
  rw [List.getD_eq_getElem?_getD,List.getD_eq_getElem?_getD,List.getElem?_eq_getElem hi,List.getElem?_eq_getElem hj] at e
  exact hij ((List.getElem_inj hnd).1 e)
 have m0:=hg 0 (by omega)
 have m1:=hg 1 (by omega)
 have m2:=hg 2 (by omega)
 have i0:=(hmem _ m0).1
 have i1:=(hmem _ m1).1
 have n01:=hne 0 1 (by omega) (by omega) (by omega)
 have hon : ∀ x ∈ S,onF p x (thrF p (S.getD 0 0) (S.getD 1 0)) = strF p (S.getD 0 0) (S.getD 1 0) x:=fun x hx=>by
  rw [str_on hp i0 i1 (hmem x hx).1 n01,← thr_join hp i0 i1 n01]
 cases ha : arcF p S with
 | true =>
  have:=arc_any hp ha m0 m1 m2 n01 (hne 0 2 (by omega) (by omega) (by omega)) (hne 1 2 (by omega) (by omega) (by omega))
  rw [← hon _ m2] at this
  symm
  rw [Bool.not_eq_true',List.all_eq_false]
  exact ⟨_,m2,by rw [this];simp⟩
 | false =>
  symm
  rw [Bool.not_eq_false',List.all_eq_true]
  unfold arcF at ha
  obtain ⟨i,hi,ha⟩:=List.all_eq_false.1 ha
  rw [Bool.not_eq_true] at ha
  obtain ⟨j,hj,ha⟩:=List.all_eq_false.1 ha
  rw [Bool.not_eq_true] at ha
  obtain ⟨k,hk,ha⟩:=List.all_eq_false.1 ha
  rw [List.mem_range] at hi hj hk
  have hs : strF p (S.getD k 0) (S.getD j 0) (S.getD i 0) = true:=by simpa using ha
  have hall:=hfull (hg k (by omega)) (hg j (by omega)) (hg i (by omega)) (hne k j (by omega) (by omega) (by omega)) (hne k i (by omega) (by omega) (by omega)) (hne j i (by omega) (by omega) (by omega)) hs
  have ik:=(hmem _ (hg k (by omega))).1
  have ij:=(hmem _ (hg j (by omega))).1
  have nkj:=hne k j (by omega) (by omega) (by omega)
  obtain ⟨jin,_,_⟩:=join_on hp ik ij nkj
  obtain ⟨jin',q0,q1⟩:=join_on hp i0 i1 n01
  have honl : ∀ x ∈ S,onF p x (thrF p (S.getD k 0) (S.getD j 0)) = true:=fun x hx=>by
   have:=hall x hx
   rwa [str_on hp ik ij (hmem x hx).1 nkj,← thr_join hp ik ij nkj] at this
  intro x hx
  have hN:=pts_len p (isP_mem hp)
  have r0:=inPt_iff.1 i0
  have r1:=inPt_iff.1 i1
  have r2:=inPt_iff.1 jin
  have r3:=inPt_iff.1 jin'
  have:=line_one hp (x:=(S.getD 0 0).toNat) (y:=(S.getD 1 0).toNat) (b:=(thrF p (S.getD k 0) (S.getD j 0)).toNat) (c:=(thrF p (S.getD 0 0) (S.getD 1 0)).toNat) (by omega) (by omega) (by omega) (by omega) (by omega) (by rw [Int.toNat_of_nonneg r0.1,Int.toNat_of_nonneg r2.1];exact honl _ m0) (by rw [Int.toNat_of_nonneg r1.1,Int.toNat_of_nonneg r2.1];exact honl _ m1) (by rw [Int.toNat_of_nonneg r0.1,Int.toNat_of_nonneg r3.1];exact q0) (by rw [Int.toNat_of_nonneg r1.1,Int.toNat_of_nonneg r3.1];exact q1)
  have e : thrF p (S.getD 0 0) (S.getD 1 0) = thrF p (S.getD k 0) (S.getD j 0):=by omega
  rw [e];exact honl x hx
end Go.Arcs
set_option maxRecDepth 100000
namespace Go.Arcs
open Go Go.Ab Go.Proofs
theorem evQ_cong {p : Int} {f g : Nat → Int} {X : TripD} (h : ∀ j,j < 6 → p ∣ f j - g j) : p ∣ evQ f X - evQ g X:=by
 unfold evQ
 refine s6_dvd fun j hj=>?_
 obtain ⟨k,hk⟩:=h j hj
 exact ⟨(l6 (powF X)).getD j 0 * k,by rw [← Int.mul_sub,hk];grind⟩
theorem evQ_mul {f : Nat → Int} {a : Int} {X : TripD} : evQ (fun j=>a * f j) X = a * evQ f X:=by
 unfold evQ s6;grind
theorem segre_one {p : Int} (hpb : isPb p = true) (h57 : p = 5 ∨ p = 7) {g : List Int} (hset : okSet p g = true) (ha : arcF p g = true) (hl : (g.length:Int) = p + 1) :
  okSet p (g.take 5) = true ∧ arcF p (g.take 5) = true ∧ (g.take 5).length = 5 ∧ isCb p (kerF p (rowsF p (g.take 5))) = true ∧ crvF p (kerF p (rowsF p (g.take 5))) = g:=by
 have hp:=isPb_iff.1 hpb
 have hset':=hset
 simp only [okSet,Bool.and_eq_true] at hset'
 obtain ⟨⟨_,hall⟩,hr⟩:=hset'
 have hin : ∀ x ∈ g,inPt p x = true:=List.all_eq_true.1 hall
 have h5 : (g.take 5).length = 5:=by rw [List.length_take];omega
 have hr5:=ris_take (n:=5) hr
 have hall5 : (g.take 5).all (inPt p) = true:=List.all_eq_true.2 fun x hx=>hin x (List.mem_of_mem_take hx)
 have hset5 : okSet p (g.take 5) = true:=by simp only [okSet,hpb,hall5,hr5,Bool.and_self]
 have hnd:=ris_nd hr
 have nt : ∀ x y z : Int,x ∈ g → y ∈ g → z ∈ g → x ≠ y → x ≠ z → y ≠ z → ¬ p ∣ trip (pt p x) (pt p y) (pt p z):=fun x y z hx hy hz h1 h2 h3 hd=>by
  have:=arc_any hp ha hx hy hz h1 h2 h3
  rw [(str_trip hp).2 hd] at this
  cases this
 have ha5 : arcF p (g.take 5) = true:=by
  unfold arcF
  refine List.all_eq_true.2 fun i hi=>List.all_eq_true.2 fun j hj=>List.all_eq_true.2 fun k hk=>?_
  rw [List.mem_range] at hi hj hk
  have hg : ∀ t,t < (g.take 5).length → (g.take 5).getD t 0 ∈ g:=fun t ht=>by
   rw [List.getD_eq_getElem?_getD,List.getElem?_eq_getElem ht];exact List.mem_of_mem_take (List.getElem_mem _)
  have hnd5:=ris_nd hr5
  have hne : ∀ s t,s < (g.take 5).length → t < (g.take 5).length → s ≠ t → (g.take 5).getD s 0 ≠ (g.take 5).getD t 0:=fun s t hs ht hst e=>by
   rw [List.getD_eq_getElem?_getD,List.getD_eq_getElem?_getD,List.getElem?_eq_getElem hs,List.getElem?_eq_getElem ht] at e
   exact hst ((List.getElem_inj hnd5).1 e)
  have:=arc_any hp ha (hg k (by omega)) (hg j (by omega)) (hg i (by omega)) (hne k j (by omega) (by omega) (by omega)) (hne k i (by omega) (by omega) (by omega)) (hne j i (by omega) (by omega) (by omega))
  rw [this];rfl
 refine ⟨hset5,ha5,h5,?_⟩
 have hB:=rows_B hp hall5 h5
 have hI:=arc_ind hp h5 hr5 ha5
 obtain ⟨R,le,fr,O,u,hR,hsol,hO,h1,hu,hk⟩:=ker_sol hp hB hI
 have hC6 : isC6 p (kerF p (rowsF p (g.take 5))) = true:=by
  have hkf:=hk fr hR.fr6
  unfold kerF at hkf ⊢
  cases hf : ((List.range (p ^ 6).toNat).map (dig6 p)).find? fun c=>isC6 p c && solB p (rowsF p (g.take 5)) c with
  | none =>
   rw [hf] at hkf
   exfalso
   apply hu
   have e : (l6 ((none : Option A6D).getD (0,0,0,0,0,0,()))).getD fr 0 = 0:=by
    rcases lt6 hR.fr6 with rfl | rfl | rfl | rfl | rfl | rfl <;> rfl
   rw [e,h1] at hkf
   obtain ⟨k,hk⟩:=hkf
   exact ⟨-k,by grind⟩
  | some c =>
   have:=List.find?_some hf
   rw [Bool.and_eq_true] at this
   exact this.1
 refine ⟨by rw [isC_eq,hpb,hC6];rfl,?_⟩
 obtain ⟨a,b,c,rest,rfl⟩ : ∃ a b c rest,g = a :: b :: c :: rest:=by
  match g,hl with
  | [],hl=>simp at hl;omega
  | [_],hl=>simp at hl;omega
  | [_,_],hl=>simp at hl;omega
  | a :: b :: c :: rest,_=>exact ⟨a,b,c,rest,rfl⟩
 obtain ⟨q,hq,X,hX⟩:=segre_form hp h57 hnd hin nt (by simp only [List.length_cons] at hl;omega)
 have hqs : Sol p (mxL (rowsF p ((a :: b :: c :: rest).take 5))) q:=fun i hi=>by
  have hm : ((a :: b :: c :: rest).take 5).getD i 0 ∈ a :: b :: c :: rest:=by
   rw [List.getD_eq_getElem?_getD,List.getElem?_eq_getElem (by omega)];exact List.mem_of_mem_take (List.getElem_mem _)
  have:=(hq _ (hin _ hm)).2 hm
  have e : (s6 fun j=>mxL (rowsF p ((a :: b :: c :: rest).take 5)) i j * q j) = evQ q (pt p (((a :: b :: c :: rest).take 5).getD i 0)):=by
   unfold evQ mxL rowsF
   have : ((List.map (fun x=>l6 (powF (pt p x))) ((a :: b :: c :: rest).take 5)).getD i []) = l6 (powF (pt p (((a :: b :: c :: rest).take 5).getD i 0))):=by
    rw [List.getD_eq_getElem?_getD,List.getElem?_map,List.getElem?_eq_getElem (by omega),List.getD_eq_getElem?_getD,List.getElem?_eq_getElem (by omega)];rfl
   rw [this]
  rw [e];exact this
 have hqm:=red_mul hR ((hsol q).2 hqs) hO h1
 have hqf : ¬ p ∣ q fr:=fun hd=>hX (by
  have h0 : p ∣ evQ q X - evQ (fun _=>0) X:=evQ_cong fun j hj=>by
   obtain ⟨k,hk'⟩:=hqm j hj
   obtain ⟨m,hm⟩:=hd
   exact ⟨k + m * O j,by rw [hm] at hk';grind⟩
  have e0 : evQ (fun _=>0) X = 0:=by unfold evQ s6;simp
  rwa [e0,Int.sub_zero] at h0)
 have hrel : ∀ Y : TripD,p ∣ q fr * evQ (fun j=>(l6 (kerF p (rowsF p ((a :: b :: c :: rest).take 5)))).getD j 0) Y - u * evQ q Y:=fun Y=>by
  rw [← evQ_mul,← evQ_mul]
  refine evQ_cong fun j hj=>?_
  obtain ⟨k1,e1⟩:=hqm j hj
  obtain ⟨k2,e2⟩:=hk j hj
  exact ⟨q fr * k2 - u * k1,by grind⟩
 refine ris_same crv_ris hr fun x=>?_
 rw [crv_iff hp]
 constructor
 ·rintro ⟨h1,h2⟩
  refine (hq x h1).1 ?_
  rw [on_quad,← quad_s6] at h2
  obtain ⟨k,hk'⟩:=hrel (pt p x)
  obtain ⟨m,hm⟩:=h2
  have hm : evQ (fun j=>(l6 (kerF p (rowsF p ((a :: b :: c :: rest).take 5)))).getD j 0) (pt p x) = p * m:=hm
  rw [hm] at hk'
  exact cancel hp hu ⟨q fr * m - k,by grind⟩
 ·intro hx
  refine ⟨hin x hx,?_⟩
  rw [on_quad,← quad_s6]
  obtain ⟨k,hk'⟩:=hrel (pt p x)
  obtain ⟨m,hm⟩:=(hq x (hin x hx)).2 hx
  rw [hm] at hk'
  exact cancel hp hqf ⟨k + u * m,by
   show evQ (fun j=>(l6 (kerF p (rowsF p ((a :: b :: c :: rest).take 5)))).getD j 0) (pt p x) * q fr = _
   grind⟩
end Go.Arcs
set_option maxRecDepth 100000
namespace Go.Arcs
open Go Go.Ab Go.Proofs
noncomputable def tl18 (x0:Int) (x2 : Int × Int × Int × Int × Int × Int × Unit) : Option (Bool × Unit):=gd ((6:Nat) ≤ (6:Nat)) (gd ((!!ieq (g18_c4 x0 x2) (0:Int)) = true → (!!ieq (g18_c4 x0 x2) (0:Int)) = true) (gd ((!ieq (g18_c4 x0 x2) (0:Int)) = false → (!!ieq (g18_c4 x0 x2) (0:Int)) = true) (gd ((!bif !ieq (g18_c4 x0 x2) (0:Int) then true else ieq x0 (2:Int)) = true → (!bif !ieq (g18_c4 x0 x2) (0:Int) then true else ieq x0 (2:Int)) = true) (gd ((!bif !ieq (g18_c4 x0 x2) (0:Int) then true else ieq x0 (2:Int)) = true → (!bif !ieq (g18_c4 x0 x2) (0:Int) then true else ieq x0 (2:Int)) = true) (gd ((!bif !ieq (g18_c4 x0 x2) (0:Int) then true else ieq x0 (2:Int)) = true → (!bif !ieq (g18_c4 x0 x2) (0:Int) then true else ieq x0 (2:Int)) = true ∧ (!bif !ieq (g18_c4 x0 x2) (0:Int) then true else ieq x0 (2:Int)) = true) (gd ((bif !ieq (g18_c4 x0 x2) (0:Int) then true else ieq x0 (2:Int)) = false → (!bif !ieq (g18_c4 x0 x2) (0:Int) then true else ieq x0 (2:Int)) = true) (bif bif bif !ieq (g18_c4 x0 x2) (0:Int) then true else ieq x0 (2:Int) then true else !ieq (g18_c5 x0 x2) (wr .i64 (x0 + (1:Int))) then gd ((!ieq (g18_c4 x0 x2) (0:Int)) = true → (!ieq (g18_c4 x0 x2) (0:Int)) = true) (gd (ieq (g18_c4 x0 x2) (0:Int) = false → (!ieq (g18_c4 x0 x2) (0:Int)) = true) (gd ((bif ieq (g18_c4 x0 x2) (0:Int) then true else ieq (g18_c4 x0 x2) (2:Int)) = true → (bif ieq (g18_c4 x0 x2) (0:Int) then true else ieq (g18_c4 x0 x2) (2:Int)) = true) (some ((bif bif ieq (g18_c4 x0 x2) (0:Int) then true else ieq (g18_c4 x0 x2) (2:Int) then true else false,()) : Bool × Unit)))) else gd (List.length (crvX x0 ((x2.1,x2.2.1,x2.2.2.1,x2.2.2.2.1,x2.2.2.2.2.1,x2.2.2.2.2.2.1,()) : Int × Int × Int × Int × Int × Int × Unit)).1 ≤ (100000:Nat)) (gd (small (crvX x0 ((x2.1,x2.2.1,x2.2.2.1,x2.2.2.2.1,x2.2.2.2.2.1,x2.2.2.2.2.2.1,()) : Int × Int × Int × Int × Int × Int × Unit)).1) (gd ((0:Int) ≤ (0:Int) ∧ (0:Int) < (↑(List.length (crvX x0 ((x2.1,x2.2.1,x2.2.2.1,x2.2.2.2.1,x2.2.2.2.2.1,x2.2.2.2.2.2.1,()) : Int × Int × Int × Int × Int × Int × Unit)).1):Int)) (gd ((0:Int) ≤ (1:Int) ∧ (1:Int) < (↑(List.length (crvX x0 ((x2.1,x2.2.1,x2.2.2.1,x2.2.2.2.1,x2.2.2.2.2.1,x2.2.2.2.2.2.1,()) : Int × Int × Int × Int × Int × Int × Unit)).1):Int)) (whileO (fun (d3 : Bool × Int × Unit)=>bif ilt d3.2.1 (g18_c5 x0 x2) then gd ((0:Int) ≤ d3.2.1 ∧ d3.2.1 < (↑(List.length (crvX x0 ((x2.1,x2.2.1,x2.2.2.1,x2.2.2.2.1,x2.2.2.2.2.1,x2.2.2.2.2.2.1,()) : Int × Int × Int × Int × Int × Int × Unit)).1):Int)) (gd (d3.1 = true → d3.1 = true) (gd ((bif d3.1 then (onFF x0 (g18_c11 x0 x2 d3) (joinF x0 (g18_c8 x0 x2) (g18_c9 x0 x2)).1).1 else false) = true → (bif d3.1 then (onFF x0 (g18_c11 x0 x2 d3) (joinF x0 (g18_c8 x0 x2) (g18_c9 x0 x2)).1).1 else false) = true) (gd ((bif d3.1 then (onFF x0 (g18_c11 x0 x2 d3) (joinF x0 (g18_c8 x0 x2) (g18_c9 x0 x2)).1).1 else false) = true → (bif d3.1 then (onFF x0 (g18_c11 x0 x2 d3) (joinF x0 (g18_c8 x0 x2) (g18_c9 x0 x2)).1).1 else false) = true) (some (Lp.go ((bif bif d3.1 then (onFF x0 (g18_c11 x0 x2 d3) (joinF x0 (g18_c8 x0 x2) (g18_c9 x0 x2)).1).1 else false then ieq (onFF x0 (g18_c11 x0 x2 d3) (joinF x0 (g18_c8 x0 x2) (g18_c9 x0 x2)).1).2.1 (0:Int) else false,wr .i64 (d3.2.1 + (1:Int)),()) : Bool × Int × Unit)))))) else gd (ieq (g18_c7 x0 x2) (0:Int) = true → ieq (g18_c7 x0 x2) (0:Int) = true) (gd (ieq (g18_c7 x0 x2) (0:Int) = true → ieq (g18_c7 x0 x2) (0:Int) = true) (gd ((bif ieq (g18_c7 x0 x2) (0:Int) then ieq (joinF x0 (g18_c8 x0 x2) (g18_c9 x0 x2)).2.1 (0:Int) else false) = true → (bif ieq (g18_c7 x0 x2) (0:Int) then ieq (joinF x0 (g18_c8 x0 x2) (g18_c9 x0 x2)).2.1 (0:Int) else false) = true ∧ (bif ieq (g18_c7 x0 x2) (0:Int) then ieq (joinF x0 (g18_c8 x0 x2) (g18_c9 x0 x2)).2.1 (0:Int) else false) = true) (gd ((bif ieq (g18_c7 x0 x2) (0:Int) then ieq (joinF x0 (g18_c8 x0 x2) (g18_c9 x0 x2)).2.1 (0:Int) else false) = true → (bif ieq (g18_c7 x0 x2) (0:Int) then ieq (joinF x0 (g18_c8 x0 x2) (g18_c9 x0 x2)).2.1 (0:Int) else false) = true) (gd ((bif bif ieq (g18_c7 x0 x2) (0:Int) then ieq (joinF x0 (g18_c8 x0 x2) (g18_c9 x0 x2)).2.1 (0:Int) else false then !beqB (g18_c6 x0 x2) d3.1 else false) = true → (bif bif ieq (g18_c7 x0 x2) (0:Int) then ieq (joinF x0 (g18_c8 x0 x2) (g18_c9 x0 x2)).2.1 (0:Int) else false then !beqB (g18_c6 x0 x2) d3.1 else false) = true) (some (Lp.out ((bif bif bif ieq (g18_c7 x0 x2) (0:Int) then ieq (joinF x0 (g18_c8 x0 x2) (g18_c9 x0 x2)).2.1 (0:Int) else false then !beqB (g18_c6 x0 x2) d3.1 else false then true else false,()) : Bool × Unit)))))))) ((true,(0:Int),()) : Bool × Int × Unit))))))))))))
set_option maxHeartbeats 2000000 in
theorem tail18 {p : Int} (hpb : isPb p = true) (c : A6D) : tl18 p c = some (true,()):=by
 have hp:=isPb_iff.1 hpb
 have h7:=isP_bd hp
 obtain ⟨c1,c2,c3,c4,c5,c6,⟨⟩⟩:=c
 have i0 : ieq 0 0 = true:=rfl
 have i2 : ieq 2 2 = true:=rfl
 have i20 : ieq 2 0 = false:=rfl
 have wp : wr .i64 (p + 1) = p + 1:=wr_id (by omega)
 by_cases hq : isCb p (c1,c2,c3,c4,c5,c6,()) = true
 ·have hX : crvX p (c1,c2,c3,c4,c5,c6,()) = (crvF p (c1,c2,c3,c4,c5,c6,()),0,()):=by rw [crvX,if_pos hq]
  have hmem:=crv_mem hp (c:=(c1,c2,c3,c4,c5,c6,()))
  have hris:=crv_ris (p:=p) (c:=(c1,c2,c3,c4,c5,c6,()))
  have hlen:=crv_len hp (c:=(c1,c2,c3,c4,c5,c6,()))
  have htwo:=segre_two (c:=(c1,c2,c3,c4,c5,c6,())) hp
  have hset : okSet p (crvF p (c1,c2,c3,c4,c5,c6,())) = true:=by
   have : (crvF p (c1,c2,c3,c4,c5,c6,())).all (inPt p) = true:=List.all_eq_true.2 fun x hx=>(hmem x hx).1
   simp only [okSet,hpb,this,hris,Bool.and_self]
  unfold tl18 g18_c4 g18_c5 g18_c6 g18_c7 g18_c8 g18_c9 g18_c11
  simp only [hX,i0,Bool.not_true,cond_false,gd_true,true_implies,wp,Nat.le_refl,Bool.false_eq_true,false_implies,Bool.not_false,and_self,implies_true,Bool.true_eq_false]
  generalize crvF p (c1,c2,c3,c4,c5,c6,()) = S at *
  by_cases h2 : p = 2
  ·rw [ieq_iff.2 h2]
   simp [gd_true]
  ·rw [ieq_false.2 h2]
   simp only [Bool.not_true,Bool.not_false,cond_false,cond_true,gd_true,true_implies,Bool.false_eq_true,false_implies,and_self,implies_true,Bool.true_eq_false]
   by_cases hl : (S.length:Int) = p + 1
   ·have htwo:=htwo h2 hl
    have hg : ∀ i,i < S.length → S.getD i 0 ∈ S:=fun i hi=>by
     rw [List.getD_eq_getElem?_getD,List.getElem?_eq_getElem hi];exact List.getElem_mem _
    have n01 : S.getD 0 0 ≠ S.getD 1 0:=fun e=>by
     rw [List.getD_eq_getElem?_getD,List.getD_eq_getElem?_getD,List.getElem?_eq_getElem (show 0 < S.length by omega),List.getElem?_eq_getElem (show 1 < S.length by omega)] at e
     have:=(List.getElem_inj (ris_nd hris)).1 e
     omega
    have m0:=(hmem _ (hg 0 (by omega))).1
    have m1:=(hmem _ (hg 1 (by omega))).1
    obtain ⟨jin,_,_⟩:=join_on hp m0 m1 n01
    have hJ : joinF p (S.getD 0 0) (S.getD 1 0) = (thrF p (S.getD 0 0) (S.getD 1 0),0,()):=by unfold joinF;rw [if_pos ⟨hpb,m0,m1,n01⟩]
    have hA : arcX p S = (arcF p S,0,()):=by unfold arcX;rw [if_pos hset]
    have hO : ∀ x ∈ S,onFF p x (thrF p (S.getD 0 0) (S.getD 1 0)) = (onF p x (thrF p (S.getD 0 0) (S.getD 1 0)),0,()):=fun x hx=>by unfold onFF;rw [if_pos ⟨hpb,(hmem x hx).1,jin⟩]
    rw [ieq_iff.2 hl]
    simp only [Bool.not_true,cond_false,hJ,hA,i0]
    rw [gd_pos (by omega),gd_pos (by unfold small;omega),gd_pos ⟨by omega,by omega⟩,gd_pos ⟨by omega,by omega⟩]
    generalize thrF p (S.getD 0 0) (S.getD 1 0) = j at *
    refine whileO_up (fun (i:Nat)=>(((S.take i).all (fun x=>onF p x j),(i:Int),()) : Bool × Int × Unit)) S.length _ (fun i hi=>?_) ?_
    ·have hlt:=ilt_iff.2 (show (i:Int) < (S.length:Int) by omega)
     have wi : wr .i64 ((i:Int) + 1) = ((i + 1:Nat):Int):=wr_id (by omega)
     have hOi:=hO _ (hg i hi)
     simp only [hlt,cond_true,Int.toNat_natCast,hOi,i0,wi]
     rw [gd_pos ⟨by omega,by omega⟩]
     have e : (S.take (i + 1)).all (fun x=>onF p x j) = ((S.take i).all (fun x=>onF p x j) && onF p (S.getD i 0) j):=by
      rw [List.take_succ_eq_append_getElem hi,List.all_append,List.all_cons,List.all_nil,Bool.and_true,List.getD_eq_getElem?_getD,List.getElem?_eq_getElem hi];rfl
     rw [e]
     cases (S.take i).all (fun x=>onF p x j) <;> cases onF p (S.getD i 0) j <;> simp [gd_true]
    ·have hlt:=ilt_false.2 (show (S.length:Int) ≤ (S.length:Int) by omega)
     simp only [hlt,cond_false,cond_true,List.take_length,gd_true,true_implies,and_self,imp_self,htwo]
     cases S.all (fun x=>onF p x j) <;> rfl
   ·rw [ieq_false.2 hl]
    simp [gd_true]
 ·have hX : crvX p (c1,c2,c3,c4,c5,c6,()) = ([],2,()):=by rw [crvX,if_neg hq]
  unfold tl18 g18_c4
  simp [hX,i20,i2,gd_true]
set_option maxHeartbeats 2000000 in
theorem goal18 : con18.goal Try.prog (spOf [con25,con34,con62,con38,con56,con54,con43,con55,con19,con26,con22]) g18_sh [] lm30:=by
 have e : (∀ (p:Int) (l:List Int) (c : A6D),small2 l → g18 p l c = some (true,())) = con18.goal Try.prog (spOf [con25,con34,con62,con38,con56,con54,con43,con55,con19,con26,con22]) g18_sh [] lm30:=by kernel_rfl
 rw [← e]
 intro p l c hs
 have i0 : ieq 0 0 = true:=rfl
 have i2 : ieq 2 2 = true:=rfl
 have i20 : ieq 2 0 = false:=rfl
 have hsm : small (l.take 60):=by unfold small;rw [List.length_take];omega
 unfold g18
 by_cases hpb : isPb p = true
 ·rw [hpb,Bool.not_true,cond_false,gd_pos hsm]
  have hp:=isPb_iff.1 hpb
  have ht:=tail18 hpb c
  have hid : ∀ b : Bool,(b = true → b = true):=fun b h=>h
  rw [gd_pos (hid _),gd_pos (hid _),gd_pos (hid _),gd_pos (hid _),gd_pos (fun h=>⟨h,h⟩),gd_pos (hid _)]
  by_cases h0 : g18_c0 p l = true
  ·rw [h0,cond_true]
   unfold g18_c0 at h0
   have hset : okSet p (l.take 60) = true:=by
    cases hq : okSet p (l.take 60) with
    | true=>rfl
    | false=>rw [growX,hq] at h0;simp [i20] at h0
   have harc : arcF p (l.take 60) = true:=by
    cases hq : arcF p (l.take 60) with
    | true=>rfl
    | false=>rw [growX,hset,hq] at h0;simp [show ieq 5 0 = false from rfl] at h0
   have hG : growX p (l.take 60) = (growA (frF p) 60 (l.take 60),0,()):=by rw [growX,if_pos hset,if_pos harc]
   have hgs:=grow_ok (new_fr hp) 60 hset
   have hga:=grow_arc hp 60 hset harc
   rw [hG] at h0
   have h7:=isP_bd hp
   have wp : wr .i64 (p + 1) = p + 1:=wr_id (by omega)
   simp only [i0,cond_true,wp] at h0
   have h4 : 4 < p:=by
    cases hq : ilt 4 p with
    | true=>exact ilt_iff.1 hq
    | false=>rw [hq] at h0;cases h0
   rw [ilt_iff.2 h4,cond_true] at h0
   have hl:=ieq_iff.1 h0
   generalize growA (frF p) 60 (l.take 60) = g at *
   obtain ⟨k1,k2,k3,k4,k5⟩:=segre_one hpb (by rcases hp with h | h | h | h <;> omega) hgs hga hl
   have hT : thrX p (g.take 5) = (kerF p (rowsF p (g.take 5)),0,()):=by rw [thrX,if_pos ⟨k1,k3⟩,if_pos k2]
   have hXX : crvX p (kerF p (rowsF p (g.take 5))) = (g,0,()):=by rw [crvX,if_pos k4,k5]
   generalize kerF p (rowsF p (g.take 5)) = K at *
   have eK : ((K.1,K.2.1,K.2.2.1,K.2.2.2.1,K.2.2.2.2.1,K.2.2.2.2.2.1,()) : A6D) = K:=rfl
   have q1 : g18_c1 p l = 0:=by unfold g18_c1;rw [hG,hT,eK,hXX]
   have q2 : g18_c2 p l = true:=by unfold g18_c2;rw [hG,hT,eK,hXX];exact (eqLf_iff (fun x y=>ieq_iff)).2 rfl
   have q3 : g18_c3 p l = false:=by unfold g18_c3;rw [q1,q2,hG,hT];rfl
   have sg : small g:=by unfold small;omega
   rw [hG,hT,eK,hXX,q1,q3]
   simp only []
   rw [gd_pos ⟨by omega,by omega⟩,gd_pos (by rw [List.length_take];omega),gd_pos (by unfold small;rw [List.length_take];omega),gd_pos (Nat.le_refl _),gd_pos (Nat.le_refl _)]
   simp only [i0,Bool.not_true,Bool.not_false,cond_false,cond_true,gd_true,true_implies,true_and,and_true,Bool.false_eq_true,false_implies,implies_true,Bool.true_eq_false]
   rw [gd_pos ⟨sg,sg⟩]
   exact ht
  ·have hno : g18_c0 p l = false:=by simpa using h0
   rw [hno,cond_false]
   exact ht
 ·have hno : isPb p = false:=by simpa using hpb
  have hG : growX p (l.take 60) = ([],2,()):=by
   unfold growX
   rw [if_neg]
   intro h
   simp only [okSet,Bool.and_eq_true] at h
   exact hpb h.1.1
  rw [hno,Bool.not_false,cond_true,gd_pos hsm,hG]
  simp [i2,gd_true]
theorem ok18 : con18.Ok Try.prog:=Con.of_goal mixed (okC ok25 (okC ok34 (okC ok62 (okC ok38 (okC ok56 (okC ok54 (okC ok43 (okC ok55 (okC ok19 (okC ok26 (okC ok22 okN))))))))))) con18 goal18
end Go.Arcs
