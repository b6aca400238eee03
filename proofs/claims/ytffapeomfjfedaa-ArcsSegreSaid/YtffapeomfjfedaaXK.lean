/- Five equations in six unknowns modulo p: plain facts on the elimination. -/
import Derived.Test.YtffapeomfjfedaaXC
import Derived.Test.YtffapeomfjfedaaXL
import Derived.Test.YtffapeomfjfedaaXI
import Derived.Test.YtffapeomfjfedaaSS
import Derived.Test.YtffapeomfjfedaaXD
set_option linter.unusedVariables false
set_option linter.unusedSimpArgs false
namespace Go.Arcs
open Go Go.Ab Go.Proofs
def s5 (f : Nat → Int) : Int:=f 0 + f 1 + f 2 + f 3 + f 4
def s6 (f : Nat → Int) : Int:=f 0 + f 1 + f 2 + f 3 + f 4 + f 5
abbrev Mx:=Nat → Nat → Int
def Sol (p:Int) (R : Mx) (v : Nat → Int) : Prop:=∀ i,i < 5 → p ∣ s6 fun j=>R i j * v j
def Ind (p:Int) (R : Mx) : Prop:=∀ l : Nat → Int,(∀ j,j < 6 → p ∣ s5 fun i=>l i * R i j) → ∀ i,i < 5 → p ∣ l i
def sw (a b i:Nat) : Nat:=if i = a then b else if i = b then a else i
theorem lt5 {i : Nat} (h : i < 5) : i = 0 ∨ i = 1 ∨ i = 2 ∨ i = 3 ∨ i = 4:=by omega
theorem lt6 {i : Nat} (h : i < 6) : i = 0 ∨ i = 1 ∨ i = 2 ∨ i = 3 ∨ i = 4 ∨ i = 5:=by omega
theorem sw_lt {a b i : Nat} (ha : a < 5) (hb : b < 5) (hi : i < 5) : sw a b i < 5:=by unfold sw;split <;> (try split) <;> omega
theorem sw_sw {a b i : Nat} : sw a b (sw a b i) = i:=by unfold sw;split <;> (try split) <;> (try split) <;> omega
theorem s5_sw {a b : Nat} (ha : a < 5) (hb : b < 5) {f : Nat → Int} : s5 (fun i=>f (sw a b i)) = s5 f:=by
 rcases lt5 ha with rfl | rfl | rfl | rfl | rfl <;> rcases lt5 hb with rfl | rfl | rfl | rfl | rfl <;> simp [s5,sw] <;> omega
def swM (R : Mx) (a b:Nat) : Mx:=fun i=>R (sw a b i)
theorem Sol_sw {p : Int} {R : Mx} {a b : Nat} (ha : a < 5) (hb : b < 5) {v : Nat → Int} : Sol p (swM R a b) v ↔ Sol p R v :=
 ⟨fun h i hi=>by have:=h (sw a b i) (sw_lt ha hb hi);simpa only [swM,sw_sw] using this,fun h i hi=>h _ (sw_lt ha hb hi)⟩
theorem Ind_sw {p : Int} {R : Mx} {a b : Nat} (ha : a < 5) (hb : b < 5) (h : Ind p R) : Ind p (swM R a b):=fun l hl i hi=>by
 have:=h (fun i=>l (sw a b i)) (fun j hj=>by
  have e:=hl j hj
  rw [← s5_sw ha hb] at e
  simpa only [swM,sw_sw] using e) (sw a b i) (sw_lt ha hb hi)
 simpa only [sw_sw] using this
structure Step (p:Int) (R R' : Mx) (k:Nat) (u:Int) (f : Nat → Int) : Prop where
 lt : k < 5
 at_ : ∀ j,j < 6 → p ∣ R' k j - u * R k j
 ne : ∀ i j,i < 5 → i ≠ k → j < 6 → p ∣ R' i j - (R i j - f i * R k j)
 un : ∃ w,p ∣ w * u - 1
theorem s6_dvd {p : Int} {f g : Nat → Int} (h : ∀ j,j < 6 → p ∣ f j - g j) : p ∣ s6 f - s6 g:=by
 obtain ⟨a,ha⟩:=h 0 (by omega)
 obtain ⟨b,hb⟩:=h 1 (by omega)
 obtain ⟨c,hc⟩:=h 2 (by omega)
 obtain ⟨d,hd⟩:=h 3 (by omega)
 obtain ⟨e,he⟩:=h 4 (by omega)
 obtain ⟨g',hg⟩:=h 5 (by omega)
 exact ⟨a + b + c + d + e + g',by unfold s6;grind⟩
theorem s5_dvd {p : Int} {f g : Nat → Int} (h : ∀ j,j < 5 → p ∣ f j - g j) : p ∣ s5 f - s5 g:=by
 obtain ⟨a,ha⟩:=h 0 (by omega)
 obtain ⟨b,hb⟩:=h 1 (by omega)
 obtain ⟨c,hc⟩:=h 2 (by omega)
 obtain ⟨d,hd⟩:=h 3 (by omega)
 obtain ⟨e,he⟩:=h 4 (by omega)
 exact ⟨a + b + c + d + e,by unfold s5;grind⟩
theorem s6_mul {c : Int} {f : Nat → Int} : s6 (fun j=>c * f j) = c * s6 f:=by unfold s6;grind
theorem s6_sub {f g : Nat → Int} : s6 (fun j=>f j - g j) = s6 f - s6 g:=by unfold s6;grind
theorem Sol_step {p : Int} {R R' : Mx} {k : Nat} {u : Int} {f : Nat → Int} (h : Step p R R' k u f) {v : Nat → Int} : Sol p R' v ↔ Sol p R v:=by
 have e1 : p ∣ s6 (fun j=>R' k j * v j) - u * s6 (fun j=>R k j * v j):=by
  rw [← s6_mul]
  refine s6_dvd fun j hj=>?_
  obtain ⟨c,hc⟩:=h.at_ j hj
  exact ⟨c * v j,by grind⟩
 have e2 : ∀ i,i < 5 → i ≠ k → p ∣ s6 (fun j=>R' i j * v j) - (s6 (fun j=>R i j * v j) - f i * s6 (fun j=>R k j * v j)):=fun i hi hk=>by
  rw [← s6_mul,← s6_sub]
  refine s6_dvd fun j hj=>?_
  obtain ⟨c,hc⟩:=h.ne i j hi hk hj
  exact ⟨c * v j,by grind⟩
 obtain ⟨w,q,hw⟩:=h.un
 obtain ⟨c1,hc1⟩:=e1
 constructor
 ·intro hs
  have hk : p ∣ s6 (fun j=>R k j * v j):=by
   obtain ⟨d,hd⟩:=hs k h.lt
   exact ⟨w * (d - c1) - q * s6 (fun j=>R k j * v j),by grind⟩
  intro i hi
  by_cases he : i = k
  ·subst he;exact hk
  ·obtain ⟨c2,hc2⟩:=e2 i hi he
   obtain ⟨d,hd⟩:=hs i hi
   obtain ⟨d2,hd2⟩:=hk
   exact ⟨d - c2 + f i * d2,by grind⟩
 ·intro hs
  obtain ⟨d2,hd2⟩:=hs k h.lt
  intro i hi
  by_cases he : i = k
  ·subst he;exact ⟨c1 + u * d2,by grind⟩
  ·obtain ⟨c2,hc2⟩:=e2 i hi he
   obtain ⟨d,hd⟩:=hs i hi
   exact ⟨c2 + d - f i * d2,by grind⟩
def lamS (k:Nat) (u:Int) (f l : Nat → Int) : Nat → Int:=fun i=>if i = k then u * l k - (s5 fun i=>if i = k then 0 else l i * f i) else l i
theorem Ind_step {p : Int} {R R' : Mx} {k : Nat} {u : Int} {f : Nat → Int} (h : Step p R R' k u f) (hI : Ind p R) : Ind p R':=by
 intro l hl
 have key:=hI (lamS k u f l) (fun j hj=>by
  have e : p ∣ s5 (fun i=>l i * R' i j) - s5 fun i=>if i = k then l k * (u * R k j) else l i * (R i j - f i * R k j):=s5_dvd fun i hi=>by
   by_cases he : i = k
   ·obtain ⟨c,hc⟩:=h.at_ j hj
    rw [if_pos he,he]
    exact ⟨l k * c,by grind⟩
   ·obtain ⟨c,hc⟩:=h.ne i j hi he hj
    rw [if_neg he]
    exact ⟨l i * c,by grind⟩
  have e2 : (s5 fun i=>if i = k then l k * (u * R k j) else l i * (R i j - f i * R k j)) = s5 fun i=>lamS k u f l i * R i j:=by
   unfold lamS
   rcases lt5 h.lt with rfl | rfl | rfl | rfl | rfl <;> simp [s5] <;> grind
  rw [e2] at e
  obtain ⟨a,ha⟩:=e
  obtain ⟨b,hb⟩:=hl j hj
  exact ⟨b - a,by grind⟩)
 have hne : ∀ i,i < 5 → i ≠ k → p ∣ l i:=fun i hi he=>by
  have:=key i hi
  unfold lamS at this
  rwa [if_neg he] at this
 intro i hi
 by_cases he : i = k
 ·subst he
  have h1:=key i hi
  unfold lamS at h1
  rw [if_pos rfl] at h1
  have h2 : p ∣ (s5 fun m=>if m = i then 0 else l m * f m) - s5 fun _=>0:=s5_dvd fun m hm=>by
   by_cases hm' : m = i
   ·rw [if_pos hm'];exact ⟨0,by omega⟩
   ·rw [if_neg hm']
    obtain ⟨c,hc⟩:=hne m hm hm'
    exact ⟨c * f m,by grind⟩
  obtain ⟨w,q,hw⟩:=h.un
  obtain ⟨a,ha⟩:=h1
  obtain ⟨b,hb⟩:=h2
  have h0 : (s5 fun _=>0) = 0:=rfl
  exact ⟨w * (a + b) - q * l i,by grind⟩
 ·exact hne i hi he
end Go.Arcs
namespace Go.Arcs
open Go Go.Ab Go.Proofs
abbrev LLI : Ty:=.slice LI
noncomputable def nzR (p c:Int) (r:List Int) : Bool:=!ieq (modF p (r.getD c.toNat 0)) 0
noncomputable def con122 : Con:=mkC 122 [.d LI,.d (.ptr (.optr Plane)),.d (.ptr I64)] [.bool] (fun (r:List Int) (k : Option PlaneD) (c:Int)=>[k.isSome = true,(k.getD plN).1 ≠ 0,0 ≤ c ∧ c < r.length]) (fun (r:List Int) (k : Option PlaneD) (c:Int)=>(nzR (k.getD plN).1 c r,()))
noncomputable def g122 (x0:List Int) (x1 : Option (Int × List (Int × Int × Int × Unit) × List ((Int × Int × Int × Unit) × Int) × Unit)) (x2:Int) : Option (Bool × Unit):=gd (0 ≤ x2 ∧ x2 < (↑(List.length x0):Int)) (gd (Option.isSome x1 = true) (gd ((Option.getD x1 ((0,([] : List (Int × Int × Int × Unit)),([] : List ((Int × Int × Int × Unit) × Int)),()) : Int × List (Int × Int × Int × Unit) × List ((Int × Int × Int × Unit) × Int) × Unit)).1 ≠ 0) (some ((!ieq (modF (Option.getD x1 ((0,([] : List (Int × Int × Int × Unit)),([] : List ((Int × Int × Int × Unit) × Int)),()) : Int × List (Int × Int × Int × Unit) × List ((Int × Int × Int × Unit) × Int) × Unit)).1 (List.getD x0 (Int.toNat x2) 0)) 0,()) : Bool × Unit))))
noncomputable def g122_sh : List LSh:=([] : List LSh)
noncomputable def ixR (p c:Int) : List (List Int) → Int → Int
 | [],_=>-1
 | r :: l,i=>if nzR p c r = true then i else ixR p c l (i + 1)
noncomputable def con121 : Con:=mkC 121 [.d LLI,.fn 122 [.ptr (.optr Plane),.ptr I64]] [I64] (fun (a:List (List Int)) (k : Option PlaneD) (c:Int)=>[k.isSome = true,(k.getD plN).1 ≠ 0,a.length ≤ 1000 ∧ 0 ≤ c ∧ ∀ r ∈ a,c < r.length]) (fun (a:List (List Int)) (k : Option PlaneD) (c:Int)=>(ixR (k.getD plN).1 c a 0,()))
noncomputable def g121 (x0:List (List Int)) (x1 : Option (Int × List (Int × Int × Int × Unit) × List ((Int × Int × Int × Unit) × Int) × Unit)) (x2:Int) : Option (Int × Unit):=whileO (fun (d3 : Option (Int × List (Int × Int × Int × Unit) × List ((Int × Int × Int × Unit) × Int) × Unit) × Int × Int × Unit)=>bif ilt d3.2.2.1 (↑(List.length x0):Int) then gd (0 ≤ d3.2.2.1 ∧ d3.2.2.1 < (↑(List.length x0):Int)) (gd (Option.isSome d3.1 = true) (gd ((Option.getD d3.1 ((0,([] : List (Int × Int × Int × Unit)),([] : List ((Int × Int × Int × Unit) × Int)),()) : Int × List (Int × Int × Int × Unit) × List ((Int × Int × Int × Unit) × Int) × Unit)).1 ≠ 0) (gd (0 ≤ d3.2.1 ∧ d3.2.1 < (↑(List.length (List.getD x0 (Int.toNat d3.2.2.1) ([]:List Int))):Int)) (bif nzR (Option.getD d3.1 ((0,([] : List (Int × Int × Int × Unit)),([] : List ((Int × Int × Int × Unit) × Int)),()) : Int × List (Int × Int × Int × Unit) × List ((Int × Int × Int × Unit) × Int) × Unit)).1 d3.2.1 (List.getD x0 (Int.toNat d3.2.2.1) ([]:List Int)) then some (Lp.out ((d3.2.2.1,()) : Int × Unit)) else some (Lp.go ((d3.1,d3.2.1,wr .i64 (d3.2.2.1 + 1),()) : Option (Int × List (Int × Int × Int × Unit) × List ((Int × Int × Int × Unit) × Int) × Unit) × Int × Int × Unit)))))) else some (Lp.out (((-1:Int),()) : Int × Unit))) ((x1,x2,0,()) : Option (Int × List (Int × Int × Int × Unit) × List ((Int × Int × Int × Unit) × Int) × Unit) × Int × Int × Unit)
noncomputable def g121_sh : List LSh:=LSh.mk (((1,TV.fn (122) (TV.cons (TV.v (Ty.ptr (Ty.optr (Ty.prod (Ty.int IntKind.i64) (Ty.prod (Ty.slice (Ty.prod (Ty.int IntKind.i64) (Ty.prod (Ty.int IntKind.i64) (Ty.prod (Ty.int IntKind.i64) Ty.unit)))) (Ty.prod (Ty.map (Ty.prod (Ty.int IntKind.i64) (Ty.prod (Ty.int IntKind.i64) (Ty.prod (Ty.int IntKind.i64) Ty.unit))) (Ty.int IntKind.i64)) Ty.unit)))))) (TV.cons (TV.v (Ty.ptr (Ty.int IntKind.i64))) TV.nil))) : Nat × TV) :: ((8,TV.v (Ty.int IntKind.i64)) : Nat × TV) :: ([] : List (Nat × TV))) ([] : List TB) :: ([] : List LSh)
noncomputable def con123 : Con:=mkC 123 [.d I64] [.bool] (fun (x:Int)=>[]) (fun (x:Int)=>(!ieq x 0,()))
noncomputable def g123 (x0:Int) : Option (Bool × Unit):=some ((!ieq x0 0,()) : Bool × Unit)
noncomputable def g123_sh : List LSh:=([] : List LSh)
noncomputable def con99k : Con:=mkC 99 [.d LI,.fn 123 []] [I64] (fun (l:List Int)=>[small l]) (fun (l:List Int)=>(nzI l 0,()))
noncomputable def g99k (x0:List Int) : Option (Int × Unit):=whileO (fun (d1 : Int × Unit)=>bif ilt d1.1 (↑(List.length x0):Int) then gd (0 ≤ d1.1 ∧ d1.1 < (↑(List.length x0):Int)) (bif !ieq (List.getD x0 (Int.toNat d1.1) 0) 0 then some (Lp.out ((d1.1,()) : Int × Unit)) else some (Lp.go ((wr .i64 (d1.1 + 1),()) : Int × Unit))) else some (Lp.out (((-1:Int),()) : Int × Unit))) ((0,()) : Int × Unit)
noncomputable def g99k_sh : List LSh:=LSh.mk (((1,TV.fn (123) TV.nil) : Nat × TV) :: ((8,TV.v (Ty.int IntKind.i64)) : Nat × TV) :: ([] : List (Nat × TV))) ([] : List TB) :: ([] : List LSh)
def mxL (rows:List (List Int)) : Mx:=fun i j=>(rows.getD i []).getD j 0
def rowsB (rows:List (List Int)) : Prop:=rows.length = 5 ∧ ∀ r ∈ rows,r.length = 6 ∧ ∀ x ∈ r,0 ≤ x ∧ x ≤ 36
def dig6 (p:Int) (n:Nat) : A6D:=((n:Int) / (p * p * p * p * p) % p,(n:Int) / (p * p * p * p) % p,(n:Int) / (p * p * p) % p,(n:Int) / (p * p) % p,(n:Int) / p % p,(n:Int) % p,())
def nzv : List Int → Int
 | []=>0
 | x :: l=>if x = 0 then nzv l else x
def isC6 (p:Int) (c : A6D) : Bool:=(l6 c).all (fun x=>decide (0 ≤ x) && decide (x < p)) && ieq (nzv (l6 c)) 1
def solB (p:Int) (rows:List (List Int)) (c : A6D) : Bool:=rows.all fun r=>ieq ((s6 fun j=>r.getD j 0 * (l6 c).getD j 0) % p) 0
noncomputable def kerF (p:Int) (rows:List (List Int)) : A6D:=(((List.range (p ^ 6).toNat).map (dig6 p)).find? fun c=>isC6 p c && solB p rows c).getD (0,0,0,0,0,0,())
noncomputable def con106 : SCon:=mkS 106 [.v (.optr Plane),.slf 0 1] [.nest I64] [.v A6] [.dead] (fun (k : Option PlaneD) (rows:List (List Int))=>[k.isSome = true,isPl (k.getD plN),rowsB rows,Ind (k.getD plN).1 (mxL rows)]) (fun (k : Option PlaneD) (rows:List (List Int))=>(kerF (k.getD plN).1 rows,()))
noncomputable def g106_c0 (d2 : List (List Int) × Option (Int × List (Int × Int × Int × Unit) × List ((Int × Int × Int × Unit) × Int) × Unit) × List Int × List Int × Int × Unit) : Int:=ixR (Option.getD d2.2.1 ((0,([] : List (Int × Int × Int × Unit)),([] : List ((Int × Int × Int × Unit) × Int)),()) : Int × List (Int × Int × Int × Unit) × List ((Int × Int × Int × Unit) × Int) × Unit)).1 d2.2.2.2.2.1 (List.take (List.length d2.1 - List.length d2.2.2.2.1) (List.drop (0 + List.length d2.2.2.2.1) d2.1)) 0
noncomputable def g106_c1 (d2 : List (List Int) × Option (Int × List (Int × Int × Int × Unit) × List ((Int × Int × Int × Unit) × Int) × Unit) × List Int × List Int × Int × Unit) : Int:=List.getD (List.getD (swapR d2.1 (0 + List.length d2.2.2.2.1) (0 + Int.toNat (wr .i64 ((↑(List.length d2.2.2.2.1):Int) + g106_c0 d2)))) (0 + List.length d2.2.2.2.1) ([]:List Int)) (0 + Int.toNat d2.2.2.2.2.1) 0
noncomputable def g106_c2 (d2 : List (List Int) × Option (Int × List (Int × Int × Int × Unit) × List ((Int × Int × Int × Unit) × Int) × Unit) × List Int × List Int × Int × Unit) : Int:=invF (Option.getD d2.2.1 ((0,([] : List (Int × Int × Int × Unit)),([] : List ((Int × Int × Int × Unit) × Int)),()) : Int × List (Int × Int × Int × Unit) × List ((Int × Int × Int × Unit) × Int) × Unit)).1 (g106_c1 d2 % (Option.getD d2.2.1 ((0,([] : List (Int × Int × Int × Unit)),([] : List ((Int × Int × Int × Unit) × Int)),()) : Int × List (Int × Int × Int × Unit) × List ((Int × Int × Int × Unit) × Int) × Unit)).1)
noncomputable def g106_c3 (d2 : List (List Int) × Option (Int × List (Int × Int × Int × Unit) × List ((Int × Int × Int × Unit) × Int) × Unit) × List Int × List Int × Int × Unit) (d3 : Int × Int × List (List Int) × Option (Int × List (Int × Int × Int × Unit) × List ((Int × Int × Int × Unit) × Int) × Unit) × List Int × List Int × Int × Unit) : Int:=List.getD (List.getD d3.2.2.1 (0 + List.length d2.2.2.2.1) ([]:List Int)) (0 + Int.toNat d3.2.1) 0
noncomputable def g106_c4 (d2 : List (List Int) × Option (Int × List (Int × Int × Int × Unit) × List ((Int × Int × Int × Unit) × Int) × Unit) × List Int × List Int × Int × Unit) (d3 : Int × Int × List (List Int) × Option (Int × List (Int × Int × Int × Unit) × List ((Int × Int × Int × Unit) × Int) × Unit) × List Int × List Int × Int × Unit) : Int:=modF (Option.getD d3.2.2.2.1 ((0,([] : List (Int × Int × Int × Unit)),([] : List ((Int × Int × Int × Unit) × Int)),()) : Int × List (Int × Int × Int × Unit) × List ((Int × Int × Int × Unit) × Int) × Unit)).1 (wr .i64 (g106_c3 d2 d3 * g106_c2 d2))
noncomputable def g106_c5 (d4 : Int × Int × List (List Int) × Option (Int × List (Int × Int × Int × Unit) × List ((Int × Int × Int × Unit) × Int) × Unit) × List Int × List Int × Int × Unit) : Int:=List.getD (List.getD d4.2.2.1 (0 + Int.toNat d4.2.1) ([]:List Int)) (0 + Int.toNat d4.2.2.2.2.2.2.1) 0
noncomputable def g106_c6 (d2 : List (List Int) × Option (Int × List (Int × Int × Int × Unit) × List ((Int × Int × Int × Unit) × Int) × Unit) × List Int × List Int × Int × Unit) (d5 : Int × Int × List (List Int) × Option (Int × List (Int × Int × Int × Unit) × List ((Int × Int × Int × Unit) × Int) × Unit) × List Int × List Int × Int × Unit) : Int:=List.getD (List.getD d5.2.2.1 (0 + List.length d2.2.2.2.1) ([]:List Int)) (0 + Int.toNat d5.2.1) 0
noncomputable def g106_c7 (d2 : List (List Int) × Option (Int × List (Int × Int × Int × Unit) × List ((Int × Int × Int × Unit) × Int) × Unit) × List Int × List Int × Int × Unit) (d4 d5 : Int × Int × List (List Int) × Option (Int × List (Int × Int × Int × Unit) × List ((Int × Int × Int × Unit) × Int) × Unit) × List Int × List Int × Int × Unit) : Int:=wr .i64 (List.getD (List.getD d5.2.2.1 (0 + Int.toNat d4.2.1) ([]:List Int)) (0 + Int.toNat d5.2.1) 0 - wr .i64 (g106_c5 d4 * g106_c6 d2 d5))
noncomputable def g106_c8 (d2 : List (List Int) × Option (Int × List (Int × Int × Int × Unit) × List ((Int × Int × Int × Unit) × Int) × Unit) × List Int × List Int × Int × Unit) (d4 d5 : Int × Int × List (List Int) × Option (Int × List (Int × Int × Int × Unit) × List ((Int × Int × Int × Unit) × Int) × Unit) × List Int × List Int × Int × Unit) : Int:=modF (Option.getD d5.2.2.2.1 ((0,([] : List (Int × Int × Int × Unit)),([] : List ((Int × Int × Int × Unit) × Int)),()) : Int × List (Int × Int × Int × Unit) × List ((Int × Int × Int × Unit) × Int) × Unit)).1 (g106_c7 d2 d4 d5)
noncomputable def g106_l9 (d2 : List (List Int) × Option (Int × List (Int × Int × Int × Unit) × List ((Int × Int × Int × Unit) × Int) × Unit) × List Int × List Int × Int × Unit) (d4 d5 : Int × Int × List (List Int) × Option (Int × List (Int × Int × Int × Unit) × List ((Int × Int × Int × Unit) × Int) × Unit) × List Int × List Int × Int × Unit) : Option (Lp (Int × Int × List (List Int) × Option (Int × List (Int × Int × Int × Unit) × List ((Int × Int × Int × Unit) × Int) × Unit) × List Int × List Int × Int × Unit) (Lp (Int × Int × List (List Int) × Option (Int × List (Int × Int × Int × Unit) × List ((Int × Int × Int × Unit) × Int) × Unit) × List Int × List Int × Int × Unit) (Lp (Int × Int × List (List Int) × Option (Int × List (Int × Int × Int × Unit) × List ((Int × Int × Int × Unit) × Int) × Unit) × List Int × List Int × Int × Unit) (Lp (List (List Int) × Option (Int × List (Int × Int × Int × Unit) × List ((Int × Int × Int × Unit) × Int) × Unit) × List Int × List Int × Int × Unit) ((Int × Int × Int × Int × Int × Int × Unit) × Unit))))):=bif ilt d5.2.1 6 then gd (0 ≤ d4.2.1 ∧ d4.2.1 < (↑(Int.toNat d5.1):Int)) (gd (0 + Int.toNat d4.2.1 < List.length d5.2.2.1) (gd (0 ≤ d4.2.1 ∧ d4.2.1 < (↑(Int.toNat d5.1):Int)) (gd (0 + Int.toNat d4.2.1 < List.length d5.2.2.1) (gd (0 ≤ d5.2.1 ∧ d5.2.1 < (↑(List.length (List.getD d5.2.2.1 (0 + Int.toNat d4.2.1) ([]:List Int))):Int)) (gd (0 + Int.toNat d5.2.1 < List.length (List.getD d5.2.2.1 (0 + Int.toNat d4.2.1) ([]:List Int))) (gd (0 ≤ (↑(List.length d2.2.2.2.1):Int) ∧ (↑(List.length d2.2.2.2.1):Int) < (↑(Int.toNat d5.1):Int)) (gd (0 + List.length d2.2.2.2.1 < List.length d5.2.2.1) (gd (0 ≤ d5.2.1 ∧ d5.2.1 < (↑(List.length (List.getD d5.2.2.1 (0 + List.length d2.2.2.2.1) ([]:List Int))):Int)) (gd (0 + Int.toNat d5.2.1 < List.length (List.getD d5.2.2.1 (0 + List.length d2.2.2.2.1) ([]:List Int))) (gd (Option.isSome d5.2.2.2.1 = true) (gd ((Option.getD d5.2.2.2.1 ((0,([] : List (Int × Int × Int × Unit)),([] : List ((Int × Int × Int × Unit) × Int)),()) : Int × List (Int × Int × Int × Unit) × List ((Int × Int × Int × Unit) × Int) × Unit)).1 ≠ 0) (gd (0 ≤ d5.2.1 ∧ d5.2.1 < (↑(List.length (List.getD d5.2.2.1 (0 + Int.toNat d4.2.1) ([]:List Int))):Int)) (gd (0 + Int.toNat d5.2.1 < List.length (List.getD d5.2.2.1 (0 + Int.toNat d4.2.1) ([]:List Int))) (gd (List.length d5.2.2.2.2.2.1 = List.length d5.2.2.2.2.2.1) (gd (List.length d5.2.2.2.2.2.1 = List.length d5.2.2.2.2.2.1) (some (Lp.go (((↑(Int.toNat d5.1):Int),wr .i64 (d5.2.1 + 1),List.set d5.2.2.1 (0 + Int.toNat d4.2.1) (List.set (List.getD d5.2.2.1 (0 + Int.toNat d4.2.1) ([]:List Int)) (0 + Int.toNat d5.2.1) (g106_c8 d2 d4 d5)),d5.2.2.2.1,d5.2.2.2.2.1,d5.2.2.2.2.2.1,d5.2.2.2.2.2.2.1,()) : Int × Int × List (List Int) × Option (Int × List (Int × Int × Int × Unit) × List ((Int × Int × Int × Unit) × Int) × Unit) × List Int × List Int × Int × Unit)))))))))))))))))) else gd (List.length d5.2.2.2.2.2.1 = List.length d5.2.2.2.2.2.1) (gd (List.length d5.2.2.2.2.2.1 = List.length d5.2.2.2.2.2.1) (some (Lp.out (Lp.go (((↑(Int.toNat d5.1):Int),wr .i64 (d4.2.1 + 1),d5.2.2.1,d5.2.2.2.1,d5.2.2.2.2.1,d5.2.2.2.2.2.1,d5.2.2.2.2.2.2.1,()) : Int × Int × List (List Int) × Option (Int × List (Int × Int × Int × Unit) × List ((Int × Int × Int × Unit) × Int) × Unit) × List Int × List Int × Int × Unit)))))
noncomputable def g106_l10 (d2 : List (List Int) × Option (Int × List (Int × Int × Int × Unit) × List ((Int × Int × Int × Unit) × Int) × Unit) × List Int × List Int × Int × Unit) (d3 d4 : Int × Int × List (List Int) × Option (Int × List (Int × Int × Int × Unit) × List ((Int × Int × Int × Unit) × Int) × Unit) × List Int × List Int × Int × Unit) : Option (Lp (Int × Int × List (List Int) × Option (Int × List (Int × Int × Int × Unit) × List ((Int × Int × Int × Unit) × Int) × Unit) × List Int × List Int × Int × Unit) (Lp (Int × Int × List (List Int) × Option (Int × List (Int × Int × Int × Unit) × List ((Int × Int × Int × Unit) × Int) × Unit) × List Int × List Int × Int × Unit) (Lp (List (List Int) × Option (Int × List (Int × Int × Int × Unit) × List ((Int × Int × Int × Unit) × Int) × Unit) × List Int × List Int × Int × Unit) ((Int × Int × Int × Int × Int × Int × Unit) × Unit)))):=bif ilt d4.2.1 (↑(Int.toNat d3.1):Int) then gd (0 ≤ d4.2.1 ∧ d4.2.1 < (↑(Int.toNat d4.1):Int)) (gd (0 + Int.toNat d4.2.1 < List.length d4.2.2.1) (gd (0 ≤ d4.2.2.2.2.2.2.1 ∧ d4.2.2.2.2.2.2.1 < (↑(List.length (List.getD d4.2.2.1 (0 + Int.toNat d4.2.1) ([]:List Int))):Int)) (gd (0 + Int.toNat d4.2.2.2.2.2.2.1 < List.length (List.getD d4.2.2.1 (0 + Int.toNat d4.2.1) ([]:List Int))) (bif !ieq d4.2.1 (↑(List.length d2.2.2.2.1):Int) then gd (List.length d4.2.2.2.2.2.1 = List.length d4.2.2.2.2.2.1) (gd (List.length d4.2.2.2.2.2.1 = List.length d4.2.2.2.2.2.1) (whileO (g106_l9 d2 d4) (((↑(Int.toNat d4.1):Int),0,d4.2.2.1,d4.2.2.2.1,d4.2.2.2.2.1,d4.2.2.2.2.2.1,d4.2.2.2.2.2.2.1,()) : Int × Int × List (List Int) × Option (Int × List (Int × Int × Int × Unit) × List ((Int × Int × Int × Unit) × Int) × Unit) × List Int × List Int × Int × Unit))) else gd (List.length d4.2.2.2.2.2.1 = List.length d4.2.2.2.2.2.1) (gd (List.length d4.2.2.2.2.2.1 = List.length d4.2.2.2.2.2.1) (some (Lp.go (((↑(Int.toNat d4.1):Int),wr .i64 (d4.2.1 + 1),d4.2.2.1,d4.2.2.2.1,d4.2.2.2.2.1,d4.2.2.2.2.2.1,d4.2.2.2.2.2.2.1,()) : Int × Int × List (List Int) × Option (Int × List (Int × Int × Int × Unit) × List ((Int × Int × Int × Unit) × Int) × Unit) × List Int × List Int × Int × Unit)))))))) else gd (List.length d4.2.2.2.2.2.1 ≤ List.length d4.2.2.2.2.2.1) (gd ((List.length d4.2.2.2.2.2.1 + 1) * (8:Nat) ≤ 1099511627776) (gd (Int.toNat d4.1 = List.length d4.2.2.1) (gd (List.length d4.2.2.2.2.2.1 + 1 = List.length (List.take (List.length d4.2.2.2.2.2.1) d4.2.2.2.2.2.1 ++ d4.2.2.2.2.2.2.1 :: ([]:List Int))) (some (Lp.out (Lp.out (Lp.go ((d4.2.2.1,d4.2.2.2.1,d4.2.2.2.2.1,List.take (List.length d4.2.2.2.2.2.1) d4.2.2.2.2.2.1 ++ d4.2.2.2.2.2.2.1 :: ([]:List Int),wr .i64 (d4.2.2.2.2.2.2.1 + 1),()) : List (List Int) × Option (Int × List (Int × Int × Int × Unit) × List ((Int × Int × Int × Unit) × Int) × Unit) × List Int × List Int × Int × Unit))))))))
noncomputable def g106_l11 (d2 : List (List Int) × Option (Int × List (Int × Int × Int × Unit) × List ((Int × Int × Int × Unit) × Int) × Unit) × List Int × List Int × Int × Unit) (d3 : Int × Int × List (List Int) × Option (Int × List (Int × Int × Int × Unit) × List ((Int × Int × Int × Unit) × Int) × Unit) × List Int × List Int × Int × Unit) : Option (Lp (Int × Int × List (List Int) × Option (Int × List (Int × Int × Int × Unit) × List ((Int × Int × Int × Unit) × Int) × Unit) × List Int × List Int × Int × Unit) (Lp (List (List Int) × Option (Int × List (Int × Int × Int × Unit) × List ((Int × Int × Int × Unit) × Int) × Unit) × List Int × List Int × Int × Unit) ((Int × Int × Int × Int × Int × Int × Unit) × Unit))):=bif ilt d3.2.1 6 then gd (0 ≤ (↑(List.length d2.2.2.2.1):Int) ∧ (↑(List.length d2.2.2.2.1):Int) < (↑(Int.toNat d3.1):Int)) (gd (0 + List.length d2.2.2.2.1 < List.length d3.2.2.1) (gd (0 ≤ (↑(List.length d2.2.2.2.1):Int) ∧ (↑(List.length d2.2.2.2.1):Int) < (↑(Int.toNat d3.1):Int)) (gd (0 + List.length d2.2.2.2.1 < List.length d3.2.2.1) (gd (0 ≤ d3.2.1 ∧ d3.2.1 < (↑(List.length (List.getD d3.2.2.1 (0 + List.length d2.2.2.2.1) ([]:List Int))):Int)) (gd (0 + Int.toNat d3.2.1 < List.length (List.getD d3.2.2.1 (0 + List.length d2.2.2.2.1) ([]:List Int))) (gd (Option.isSome d3.2.2.2.1 = true) (gd ((Option.getD d3.2.2.2.1 ((0,([] : List (Int × Int × Int × Unit)),([] : List ((Int × Int × Int × Unit) × Int)),()) : Int × List (Int × Int × Int × Unit) × List ((Int × Int × Int × Unit) × Int) × Unit)).1 ≠ 0) (gd (0 ≤ d3.2.1 ∧ d3.2.1 < (↑(List.length (List.getD d3.2.2.1 (0 + List.length d2.2.2.2.1) ([]:List Int))):Int)) (gd (0 + Int.toNat d3.2.1 < List.length (List.getD d3.2.2.1 (0 + List.length d2.2.2.2.1) ([]:List Int))) (gd (List.length d3.2.2.2.2.2.1 = List.length d3.2.2.2.2.2.1) (gd (List.length d3.2.2.2.2.2.1 = List.length d3.2.2.2.2.2.1) (some (Lp.go (((↑(Int.toNat d3.1):Int),wr .i64 (d3.2.1 + 1),List.set d3.2.2.1 (0 + List.length d2.2.2.2.1) (List.set (List.getD d3.2.2.1 (0 + List.length d2.2.2.2.1) ([]:List Int)) (0 + Int.toNat d3.2.1) (g106_c4 d2 d3)),d3.2.2.2.1,d3.2.2.2.2.1,d3.2.2.2.2.2.1,d3.2.2.2.2.2.2.1,()) : Int × Int × List (List Int) × Option (Int × List (Int × Int × Int × Unit) × List ((Int × Int × Int × Unit) × Int) × Unit) × List Int × List Int × Int × Unit)))))))))))))) else gd (List.length d3.2.2.2.2.2.1 = List.length d3.2.2.2.2.2.1) (gd (List.length d3.2.2.2.2.2.1 = List.length d3.2.2.2.2.2.1) (whileO (g106_l10 d2 d3) (((↑(Int.toNat d3.1):Int),0,d3.2.2.1,d3.2.2.2.1,d3.2.2.2.2.1,d3.2.2.2.2.2.1,d3.2.2.2.2.2.2.1,()) : Int × Int × List (List Int) × Option (Int × List (Int × Int × Int × Unit) × List ((Int × Int × Int × Unit) × Int) × Unit) × List Int × List Int × Int × Unit)))
noncomputable def g106_c12 (d3 : Int × List (List Int) × Option (Int × List (Int × Int × Int × Unit) × List ((Int × Int × Int × Unit) × Int) × Unit) × List Int × List Int × Unit) (d4 : Int × List (List Int) × Option (Int × List (Int × Int × Int × Unit) × List ((Int × Int × Int × Unit) × Int) × Unit) × List Int × List Int × List Int × Unit) : Int:=wr .i64 (0 - List.getD (List.getD d4.2.1 (0 + Int.toNat d4.1) ([]:List Int)) (0 + Int.toNat d3.1) 0)
noncomputable def g106_c13 (d3 : Int × List (List Int) × Option (Int × List (Int × Int × Int × Unit) × List ((Int × Int × Int × Unit) × Int) × Unit) × List Int × List Int × Unit) (d4 : Int × List (List Int) × Option (Int × List (Int × Int × Int × Unit) × List ((Int × Int × Int × Unit) × Int) × Unit) × List Int × List Int × List Int × Unit) : Int:=modF (Option.getD d4.2.2.1 ((0,([] : List (Int × Int × Int × Unit)),([] : List ((Int × Int × Int × Unit) × Int)),()) : Int × List (Int × Int × Int × Unit) × List ((Int × Int × Int × Unit) × Int) × Unit)).1 (g106_c12 d3 d4)
noncomputable def g106_c14 (d4 : Int × List (List Int) × Option (Int × List (Int × Int × Int × Unit) × List ((Int × Int × Int × Unit) × Int) × Unit) × List Int × List Int × List Int × Unit) : Int:=List.getD d4.2.2.2.2.1 (0 + Int.toNat (nzI (List.take 6 (List.drop 0 d4.2.2.2.2.1)) 0) * 1) 0
noncomputable def g106_c15 (d4 : Int × List (List Int) × Option (Int × List (Int × Int × Int × Unit) × List ((Int × Int × Int × Unit) × Int) × Unit) × List Int × List Int × List Int × Unit) : Int:=invF (Option.getD d4.2.2.1 ((0,([] : List (Int × Int × Int × Unit)),([] : List ((Int × Int × Int × Unit) × Int)),()) : Int × List (Int × Int × Int × Unit) × List ((Int × Int × Int × Unit) × Int) × Unit)).1 (g106_c14 d4 % (Option.getD d4.2.2.1 ((0,([] : List (Int × Int × Int × Unit)),([] : List ((Int × Int × Int × Unit) × Int)),()) : Int × List (Int × Int × Int × Unit) × List ((Int × Int × Int × Unit) × Int) × Unit)).1)
noncomputable def g106_c16 (d4 : Int × List (List Int) × Option (Int × List (Int × Int × Int × Unit) × List ((Int × Int × Int × Unit) × Int) × Unit) × List Int × List Int × List Int × Unit) (d5 : Int × Option (Int × List (Int × Int × Int × Unit) × List ((Int × Int × Int × Unit) × Int) × Unit) × List Int × List Int × Unit) : Int:=wr .i64 (List.getD d5.2.2.2.1 (0 + Int.toNat d5.1 * 1) 0 * g106_c15 d4)
noncomputable def g106_c17 (d4 : Int × List (List Int) × Option (Int × List (Int × Int × Int × Unit) × List ((Int × Int × Int × Unit) × Int) × Unit) × List Int × List Int × List Int × Unit) (d5 : Int × Option (Int × List (Int × Int × Int × Unit) × List ((Int × Int × Int × Unit) × Int) × Unit) × List Int × List Int × Unit) : Int:=modF (Option.getD d5.2.1 ((0,([] : List (Int × Int × Int × Unit)),([] : List ((Int × Int × Int × Unit) × Int)),()) : Int × List (Int × Int × Int × Unit) × List ((Int × Int × Int × Unit) × Int) × Unit)).1 (g106_c16 d4 d5)
noncomputable def g106 (x0 : Option (Int × List (Int × Int × Int × Unit) × List ((Int × Int × Int × Unit) × Int) × Unit)) (x1:List (List Int)) : Option ((Int × Int × Int × Int × Int × Int × Unit) × Unit):=gd (List.length x1 = List.length x1) (gd ((0:Nat) = 0) (whileO (fun (d2 : List (List Int) × Option (Int × List (Int × Int × Int × Unit) × List ((Int × Int × Int × Unit) × Int) × Unit) × List Int × List Int × Int × Unit)=>gd (ilt d2.2.2.2.2.1 6 = true → ilt d2.2.2.2.2.1 6 = true) (gd (ilt d2.2.2.2.2.1 6 = true → ilt d2.2.2.2.2.1 6 = true) (gd (ilt d2.2.2.2.2.1 6 = true → ilt d2.2.2.2.2.1 6 = true) (bif bif ilt d2.2.2.2.2.1 6 then ilt (↑(List.length d2.2.2.2.1):Int) 5 else false then gd (0 ≤ (↑(List.length d2.2.2.2.1):Int) ∧ (↑(List.length d2.2.2.2.1):Int) ≤ (↑(List.length d2.1):Int)) (gd (0 + List.length d2.2.2.2.1 + (List.length d2.1 - List.length d2.2.2.2.1) ≤ List.length d2.1) (gd (Option.isSome d2.2.1 = true) (gd ((Option.getD d2.2.1 ((0,([] : List (Int × Int × Int × Unit)),([] : List ((Int × Int × Int × Unit) × Int)),()) : Int × List (Int × Int × Int × Unit) × List ((Int × Int × Int × Unit) × Int) × Unit)).1 ≠ 0) (gd (List.length (List.take (List.length d2.1 - List.length d2.2.2.2.1) (List.drop (0 + List.length d2.2.2.2.1) d2.1)) ≤ 1000 ∧ 0 ≤ d2.2.2.2.2.1 ∧ ∀ (x3:List Int),List.Mem x3 (List.take (List.length d2.1 - List.length d2.2.2.2.1) (List.drop (0 + List.length d2.2.2.2.1) d2.1)) → d2.2.2.2.2.1 < (↑(List.length x3):Int)) (bif ilt (g106_c0 d2) 0 then gd (List.length d2.1 = List.length d2.1) (gd (List.length d2.2.2.2.1 = List.length d2.2.2.2.1) (some (Lp.go ((d2.1,d2.2.1,d2.2.2.1,d2.2.2.2.1,wr .i64 (d2.2.2.2.2.1 + 1),()) : List (List Int) × Option (Int × List (Int × Int × Int × Unit) × List ((Int × Int × Int × Unit) × Int) × Unit) × List Int × List Int × Int × Unit)))) else gd (0 ≤ wr .i64 ((↑(List.length d2.2.2.2.1):Int) + g106_c0 d2) ∧ wr .i64 ((↑(List.length d2.2.2.2.1):Int) + g106_c0 d2) < (↑(List.length d2.1):Int)) (gd (0 + Int.toNat (wr .i64 ((↑(List.length d2.2.2.2.1):Int) + g106_c0 d2)) < List.length d2.1) (gd (0 ≤ (↑(List.length d2.2.2.2.1):Int) ∧ (↑(List.length d2.2.2.2.1):Int) < (↑(List.length d2.1):Int)) (gd (0 + List.length d2.2.2.2.1 < List.length d2.1) (gd (0 ≤ (↑(List.length d2.2.2.2.1):Int) ∧ (↑(List.length d2.2.2.2.1):Int) < (↑(List.length d2.1):Int)) (gd (0 + List.length d2.2.2.2.1 < List.length d2.1) (gd (0 + Int.toNat (wr .i64 ((↑(List.length d2.2.2.2.1):Int) + g106_c0 d2)) < List.length d2.1) (gd (0 + List.length d2.2.2.2.1 = 0 + List.length d2.2.2.2.1) (gd (List.length (List.getD d2.1 (0 + Int.toNat (wr .i64 ((↑(List.length d2.2.2.2.1):Int) + g106_c0 d2))) ([]:List Int)) = List.length (List.getD d2.1 (0 + Int.toNat (wr .i64 ((↑(List.length d2.2.2.2.1):Int) + g106_c0 d2))) ([]:List Int))) (gd (0 ≤ wr .i64 ((↑(List.length d2.2.2.2.1):Int) + g106_c0 d2) ∧ wr .i64 ((↑(List.length d2.2.2.2.1):Int) + g106_c0 d2) < (↑(List.length d2.1):Int)) (gd (0 + Int.toNat (wr .i64 ((↑(List.length d2.2.2.2.1):Int) + g106_c0 d2)) < List.length (swapR d2.1 (0 + List.length d2.2.2.2.1) (0 + Int.toNat (wr .i64 ((↑(List.length d2.2.2.2.1):Int) + g106_c0 d2))))) (gd (0 + Int.toNat (wr .i64 ((↑(List.length d2.2.2.2.1):Int) + g106_c0 d2)) = 0 + Int.toNat (wr .i64 ((↑(List.length d2.2.2.2.1):Int) + g106_c0 d2))) (gd (0 + Int.toNat (wr .i64 ((↑(List.length d2.2.2.2.1):Int) + g106_c0 d2)) = 0 + Int.toNat (wr .i64 ((↑(List.length d2.2.2.2.1):Int) + g106_c0 d2))) (gd (List.length (List.getD d2.1 (0 + List.length d2.2.2.2.1) ([]:List Int)) = List.length (List.getD (swapR d2.1 (0 + List.length d2.2.2.2.1) (0 + Int.toNat (wr .i64 ((↑(List.length d2.2.2.2.1):Int) + g106_c0 d2)))) (0 + Int.toNat (wr .i64 ((↑(List.length d2.2.2.2.1):Int) + g106_c0 d2))) ([]:List Int))) (gd (0 ≤ (↑(List.length d2.2.2.2.1):Int) ∧ (↑(List.length d2.2.2.2.1):Int) < (↑(List.length d2.1):Int)) (gd (0 + List.length d2.2.2.2.1 < List.length (swapR d2.1 (0 + List.length d2.2.2.2.1) (0 + Int.toNat (wr .i64 ((↑(List.length d2.2.2.2.1):Int) + g106_c0 d2))))) (gd (0 ≤ d2.2.2.2.2.1 ∧ d2.2.2.2.2.1 < (↑(List.length (List.getD (swapR d2.1 (0 + List.length d2.2.2.2.1) (0 + Int.toNat (wr .i64 ((↑(List.length d2.2.2.2.1):Int) + g106_c0 d2)))) (0 + List.length d2.2.2.2.1) ([]:List Int))):Int)) (gd (0 + Int.toNat d2.2.2.2.2.1 < List.length (List.getD (swapR d2.1 (0 + List.length d2.2.2.2.1) (0 + Int.toNat (wr .i64 ((↑(List.length d2.2.2.2.1):Int) + g106_c0 d2)))) (0 + List.length d2.2.2.2.1) ([]:List Int))) (gd (Option.isSome d2.2.1 = true) (gd (isP (Option.getD d2.2.1 ((0,([] : List (Int × Int × Int × Unit)),([] : List ((Int × Int × Int × Unit) × Int)),()) : Int × List (Int × Int × Int × Unit) × List ((Int × Int × Int × Unit) × Int) × Unit)).1) (gd (g106_c1 d2 % (Option.getD d2.2.1 ((0,([] : List (Int × Int × Int × Unit)),([] : List ((Int × Int × Int × Unit) × Int)),()) : Int × List (Int × Int × Int × Unit) × List ((Int × Int × Int × Unit) × Int) × Unit)).1 ≠ 0) (gd ((-1000:Int) ≤ g106_c1 d2 ∧ g106_c1 d2 ≤ 1000) (gd (List.length d2.2.2.2.1 = List.length d2.2.2.2.1) (gd (ilt d2.2.2.2.2.1 6 = true) (gd (List.length d2.2.2.2.1 = List.length d2.2.2.2.1) (whileO (g106_l11 d2) (((↑(List.length d2.1):Int),0,swapR d2.1 (0 + List.length d2.2.2.2.1) (0 + Int.toNat (wr .i64 ((↑(List.length d2.2.2.2.1):Int) + g106_c0 d2))),d2.2.1,d2.2.2.1,d2.2.2.2.1,d2.2.2.2.2.1,()) : Int × Int × List (List Int) × Option (Int × List (Int × Int × Int × Unit) × List ((Int × Int × Int × Unit) × Int) × Unit) × List Int × List Int × Int × Unit))))))))))))))))))))))))))))))) else gd (List.length d2.1 = List.length d2.1) (gd (List.length d2.2.2.2.1 = List.length d2.2.2.2.1) (whileO (fun (d3 : Int × List (List Int) × Option (Int × List (Int × Int × Int × Unit) × List ((Int × Int × Int × Unit) × Int) × Unit) × List Int × List Int × Unit)=>gd (0 + List.length d3.2.2.2.2.1 ≤ List.length d3.2.2.2.2.1) (gd ((↑(List.length (List.take (List.length d3.2.2.2.2.1) (List.drop 0 d3.2.2.2.2.1))):Int) < 4611686018427387904) (bif List.contains (List.take (List.length d3.2.2.2.2.1) (List.drop 0 d3.2.2.2.2.1)) d3.1 then gd (List.length d3.2.1 = List.length d3.2.1) (gd (List.length d3.2.2.2.2.1 = List.length d3.2.2.2.2.1) (some (Lp.go ((wr .i64 (d3.1 + 1),d3.2.1,d3.2.2.1,d3.2.2.2.1,d3.2.2.2.2.1,()) : Int × List (List Int) × Option (Int × List (Int × Int × Int × Unit) × List ((Int × Int × Int × Unit) × Int) × Unit) × List Int × List Int × Unit)))) else gd (0 ≤ d3.1 ∧ d3.1 < 6) (gd (0 + Int.toNat d3.1 * (1:Nat) < 6) (gd (List.length d3.2.1 = List.length d3.2.1) (gd (List.length d3.2.2.2.2.1 = List.length d3.2.2.2.2.1) (whileO (fun (d4 : Int × List (List Int) × Option (Int × List (Int × Int × Int × Unit) × List ((Int × Int × Int × Unit) × Int) × Unit) × List Int × List Int × List Int × Unit)=>bif ilt d4.1 (↑(List.length d3.2.2.2.2.1):Int) then gd (0 ≤ d4.1 ∧ d4.1 < (↑(List.length d4.2.2.2.2.2.1):Int)) (gd (0 + Int.toNat d4.1 < List.length d4.2.2.2.2.2.1) (gd (0 ≤ d4.1 ∧ d4.1 < (↑(List.length d4.2.1):Int)) (gd (0 + Int.toNat d4.1 < List.length d4.2.1) (gd (0 ≤ d3.1 ∧ d3.1 < (↑(List.length (List.getD d4.2.1 (0 + Int.toNat d4.1) ([]:List Int))):Int)) (gd (0 + Int.toNat d3.1 < List.length (List.getD d4.2.1 (0 + Int.toNat d4.1) ([]:List Int))) (gd (Option.isSome d4.2.2.1 = true) (gd ((Option.getD d4.2.2.1 ((0,([] : List (Int × Int × Int × Unit)),([] : List ((Int × Int × Int × Unit) × Int)),()) : Int × List (Int × Int × Int × Unit) × List ((Int × Int × Int × Unit) × Int) × Unit)).1 ≠ 0) (gd (0 ≤ List.getD d4.2.2.2.2.2.1 (0 + Int.toNat d4.1) 0 ∧ List.getD d4.2.2.2.2.2.1 (0 + Int.toNat d4.1) (0:Int) < 6) (gd (0 + Int.toNat (List.getD d4.2.2.2.2.2.1 (0 + Int.toNat d4.1) 0) * 1 < List.length d4.2.2.2.2.1) (gd (List.length d4.2.1 = List.length d4.2.1) (gd (List.length d4.2.2.2.2.2.1 = List.length d4.2.2.2.2.2.1) (some (Lp.go ((wr .i64 (d4.1 + 1),d4.2.1,d4.2.2.1,d4.2.2.2.1,List.set d4.2.2.2.2.1 (0 + Int.toNat (List.getD d4.2.2.2.2.2.1 (0 + Int.toNat d4.1) 0) * 1) (g106_c13 d3 d4),d4.2.2.2.2.2.1,()) : Int × List (List Int) × Option (Int × List (Int × Int × Int × Unit) × List ((Int × Int × Int × Unit) × Int) × Unit) × List Int × List Int × List Int × Unit)))))))))))))) else gd (6 ≤ List.length d4.2.2.2.2.1) (gd ((↑(List.length (List.take 6 (List.drop 0 d4.2.2.2.2.1))):Int) < 4611686018427387904) (gd (0 ≤ nzI (List.take 6 (List.drop 0 d4.2.2.2.2.1)) 0 ∧ nzI (List.take 6 (List.drop 0 d4.2.2.2.2.1)) (0:Int) < 6) (gd (0 + Int.toNat (nzI (List.take 6 (List.drop 0 d4.2.2.2.2.1)) 0) * 1 < List.length d4.2.2.2.2.1) (gd (Option.isSome d4.2.2.1 = true) (gd (isP (Option.getD d4.2.2.1 ((0,([] : List (Int × Int × Int × Unit)),([] : List ((Int × Int × Int × Unit) × Int)),()) : Int × List (Int × Int × Int × Unit) × List ((Int × Int × Int × Unit) × Int) × Unit)).1) (gd (g106_c14 d4 % (Option.getD d4.2.2.1 ((0,([] : List (Int × Int × Int × Unit)),([] : List ((Int × Int × Int × Unit) × Int)),()) : Int × List (Int × Int × Int × Unit) × List ((Int × Int × Int × Unit) × Int) × Unit)).1 ≠ 0) (gd ((-1000:Int) ≤ g106_c14 d4 ∧ g106_c14 d4 ≤ 1000) (whileO (fun (d5 : Int × Option (Int × List (Int × Int × Int × Unit) × List ((Int × Int × Int × Unit) × Int) × Unit) × List Int × List Int × Unit)=>bif ilt d5.1 6 then gd (0 ≤ d5.1 ∧ d5.1 < 6) (gd (0 + Int.toNat d5.1 * 1 < List.length d5.2.2.2.1) (gd (Option.isSome d5.2.1 = true) (gd ((Option.getD d5.2.1 ((0,([] : List (Int × Int × Int × Unit)),([] : List ((Int × Int × Int × Unit) × Int)),()) : Int × List (Int × Int × Int × Unit) × List ((Int × Int × Int × Unit) × Int) × Unit)).1 ≠ 0) (gd (0 ≤ d5.1 ∧ d5.1 < 6) (gd (0 + Int.toNat d5.1 * 1 < List.length d5.2.2.2.1) (some (Lp.go ((wr .i64 (d5.1 + 1),d5.2.1,d5.2.2.1,List.set d5.2.2.2.1 (0 + Int.toNat d5.1 * 1) (g106_c17 d4 d5),()) : Int × Option (Int × List (Int × Int × Int × Unit) × List ((Int × Int × Int × Unit) × Int) × Unit) × List Int × List Int × Unit)))))))) else gd (6 ≤ List.length d5.2.2.2.1) (gd (6 ≤ List.length d5.2.2.1) (gd (6 ≤ List.length (setMany d5.2.2.1 0 (List.getD d5.2.2.2.1 0 0 :: List.getD d5.2.2.2.1 1 0 :: List.getD d5.2.2.2.1 2 0 :: List.getD d5.2.2.2.1 3 0 :: List.getD d5.2.2.2.1 4 0 :: List.getD d5.2.2.2.1 5 0 :: ([]:List Int)))) (some (Lp.out (Lp.out (Lp.out (Lp.out ((((List.getD (setMany d5.2.2.1 0 (List.getD d5.2.2.2.1 0 0 :: List.getD d5.2.2.2.1 1 0 :: List.getD d5.2.2.2.1 2 0 :: List.getD d5.2.2.2.1 3 0 :: List.getD d5.2.2.2.1 4 0 :: List.getD d5.2.2.2.1 5 0 :: ([]:List Int))) 0 0,List.getD (setMany d5.2.2.1 0 (List.getD d5.2.2.2.1 0 0 :: List.getD d5.2.2.2.1 1 0 :: List.getD d5.2.2.2.1 2 0 :: List.getD d5.2.2.2.1 3 0 :: List.getD d5.2.2.2.1 4 0 :: List.getD d5.2.2.2.1 5 0 :: ([]:List Int))) 1 0,List.getD (setMany d5.2.2.1 0 (List.getD d5.2.2.2.1 0 0 :: List.getD d5.2.2.2.1 1 0 :: List.getD d5.2.2.2.1 2 0 :: List.getD d5.2.2.2.1 3 0 :: List.getD d5.2.2.2.1 4 0 :: List.getD d5.2.2.2.1 5 0 :: ([]:List Int))) 2 0,List.getD (setMany d5.2.2.1 0 (List.getD d5.2.2.2.1 0 0 :: List.getD d5.2.2.2.1 1 0 :: List.getD d5.2.2.2.1 2 0 :: List.getD d5.2.2.2.1 3 0 :: List.getD d5.2.2.2.1 4 0 :: List.getD d5.2.2.2.1 5 0 :: ([]:List Int))) 3 0,List.getD (setMany d5.2.2.1 0 (List.getD d5.2.2.2.1 0 0 :: List.getD d5.2.2.2.1 1 0 :: List.getD d5.2.2.2.1 2 0 :: List.getD d5.2.2.2.1 3 0 :: List.getD d5.2.2.2.1 4 0 :: List.getD d5.2.2.2.1 5 0 :: ([]:List Int))) 4 0,List.getD (setMany d5.2.2.1 0 (List.getD d5.2.2.2.1 0 0 :: List.getD d5.2.2.2.1 1 0 :: List.getD d5.2.2.2.1 2 0 :: List.getD d5.2.2.2.1 3 0 :: List.getD d5.2.2.2.1 4 0 :: List.getD d5.2.2.2.1 5 0 :: ([]:List Int))) 5 0,()) : Int × Int × Int × Int × Int × Int × Unit),()) : (Int × Int × Int × Int × Int × Int × Unit) × Unit))))))))) ((0,d4.2.2.1,d4.2.2.2.1,d4.2.2.2.2.1,()) : Int × Option (Int × List (Int × Int × Int × Unit) × List ((Int × Int × Int × Unit) × Int) × Unit) × List Int × List Int × Unit)))))))))) ((0,d3.2.1,d3.2.2.1,d3.2.2.2.1,List.set (0 :: 0 :: 0 :: 0 :: 0 :: 0 :: ([]:List Int)) (0 + Int.toNat d3.1 * 1) 1,d3.2.2.2.2.1,()) : Int × List (List Int) × Option (Int × List (Int × Int × Int × Unit) × List ((Int × Int × Int × Unit) × Int) × Unit) × List Int × List Int × List Int × Unit)))))))) ((0,d2.1,d2.2.1,d2.2.2.1,d2.2.2.2.1,()) : Int × List (List Int) × Option (Int × List (Int × Int × Int × Unit) × List ((Int × Int × Int × Unit) × Int) × Unit) × List Int × List Int × Unit))))))) ((x1,x0,0 :: 0 :: 0 :: 0 :: 0 :: 0 :: ([]:List Int),([]:List Int),0,()) : List (List Int) × Option (Int × List (Int × Int × Int × Unit) × List ((Int × Int × Int × Unit) × Int) × Unit) × List Int × List Int × Int × Unit)))
noncomputable def g106_sh : List LSh:=LSh.mk3 (((1,TV.slf (1) (1)) : Nat × TV) :: ((2,TV.ref (2) 1 0 0) : Nat × TV) :: ((4,TV.ref (3) 1 0 0) : Nat × TV) :: ((5,TV.slf (4) (1)) : Nat × TV) :: ((6,TV.ref (5) 1 0 0) : Nat × TV) :: ([] : List (Nat × TV))) (TB.dead :: TB.nest (Ty.int IntKind.i64) :: TB.cells (TV.v (Ty.optr (Ty.prod (Ty.int IntKind.i64) (Ty.prod (Ty.slice (Ty.prod (Ty.int IntKind.i64) (Ty.prod (Ty.int IntKind.i64) (Ty.prod (Ty.int IntKind.i64) Ty.unit)))) (Ty.prod (Ty.map (Ty.prod (Ty.int IntKind.i64) (Ty.prod (Ty.int IntKind.i64) (Ty.prod (Ty.int IntKind.i64) Ty.unit))) (Ty.int IntKind.i64)) Ty.unit)))) :: ([] : List TV)) :: TB.arr (Ty.int IntKind.i64) false :: TB.arr (Ty.int IntKind.i64) true :: TB.cells (TV.v (Ty.int IntKind.i64) :: ([] : List TV)) :: ([] : List TB)) (1) :: LSh.mk3 (((1,TV.sl (1) (1) (0)) : Nat × TV) :: ((2,TV.ref (2) 1 0 0) : Nat × TV) :: ((4,TV.ref (3) 1 0 0) : Nat × TV) :: ((5,TV.slf (4) (1)) : Nat × TV) :: ((6,TV.ref (5) 1 0 0) : Nat × TV) :: ((24,TV.slf (4) (1)) : Nat × TV) :: ((66,TV.v (Ty.int IntKind.i64)) : Nat × TV) :: ([] : List (Nat × TV))) (TB.dead :: TB.nest (Ty.int IntKind.i64) :: TB.cells (TV.v (Ty.optr (Ty.prod (Ty.int IntKind.i64) (Ty.prod (Ty.slice (Ty.prod (Ty.int IntKind.i64) (Ty.prod (Ty.int IntKind.i64) (Ty.prod (Ty.int IntKind.i64) Ty.unit)))) (Ty.prod (Ty.map (Ty.prod (Ty.int IntKind.i64) (Ty.prod (Ty.int IntKind.i64) (Ty.prod (Ty.int IntKind.i64) Ty.unit))) (Ty.int IntKind.i64)) Ty.unit)))) :: ([] : List TV)) :: TB.arr (Ty.int IntKind.i64) false :: TB.arr (Ty.int IntKind.i64) true :: TB.cells (TV.v (Ty.int IntKind.i64) :: ([] : List TV)) :: ([] : List TB)) (1) :: LSh.mk3 (((1,TV.sl (1) (1) (0)) : Nat × TV) :: ((2,TV.ref (2) 1 0 0) : Nat × TV) :: ((4,TV.ref (3) 1 0 0) : Nat × TV) :: ((5,TV.slf (4) (1)) : Nat × TV) :: ((6,TV.ref (5) 1 0 0) : Nat × TV) :: ((24,TV.slf (4) (1)) : Nat × TV) :: ((89,TV.v (Ty.int IntKind.i64)) : Nat × TV) :: ([] : List (Nat × TV))) (TB.dead :: TB.nest (Ty.int IntKind.i64) :: TB.cells (TV.v (Ty.optr (Ty.prod (Ty.int IntKind.i64) (Ty.prod (Ty.slice (Ty.prod (Ty.int IntKind.i64) (Ty.prod (Ty.int IntKind.i64) (Ty.prod (Ty.int IntKind.i64) Ty.unit)))) (Ty.prod (Ty.map (Ty.prod (Ty.int IntKind.i64) (Ty.prod (Ty.int IntKind.i64) (Ty.prod (Ty.int IntKind.i64) Ty.unit))) (Ty.int IntKind.i64)) Ty.unit)))) :: ([] : List TV)) :: TB.arr (Ty.int IntKind.i64) false :: TB.arr (Ty.int IntKind.i64) true :: TB.cells (TV.v (Ty.int IntKind.i64) :: ([] : List TV)) :: ([] : List TB)) (1) :: LSh.mk3 (((1,TV.sl (1) (1) (0)) : Nat × TV) :: ((2,TV.ref (2) 1 0 0) : Nat × TV) :: ((4,TV.ref (3) 1 0 0) : Nat × TV) :: ((5,TV.slf (4) (1)) : Nat × TV) :: ((6,TV.ref (5) 1 0 0) : Nat × TV) :: ((24,TV.slf (4) (1)) : Nat × TV) :: ((102,TV.v (Ty.int IntKind.i64)) : Nat × TV) :: ([] : List (Nat × TV))) (TB.dead :: TB.nest (Ty.int IntKind.i64) :: TB.cells (TV.v (Ty.optr (Ty.prod (Ty.int IntKind.i64) (Ty.prod (Ty.slice (Ty.prod (Ty.int IntKind.i64) (Ty.prod (Ty.int IntKind.i64) (Ty.prod (Ty.int IntKind.i64) Ty.unit)))) (Ty.prod (Ty.map (Ty.prod (Ty.int IntKind.i64) (Ty.prod (Ty.int IntKind.i64) (Ty.prod (Ty.int IntKind.i64) Ty.unit))) (Ty.int IntKind.i64)) Ty.unit)))) :: ([] : List TV)) :: TB.arr (Ty.int IntKind.i64) false :: TB.arr (Ty.int IntKind.i64) true :: TB.cells (TV.v (Ty.int IntKind.i64) :: ([] : List TV)) :: ([] : List TB)) (1) :: LSh.mk3 (((1,TV.slf (1) (1)) : Nat × TV) :: ((2,TV.ref (2) 1 0 0) : Nat × TV) :: ((4,TV.ref (3) 1 0 0) : Nat × TV) :: ((5,TV.slf (4) (1)) : Nat × TV) :: ((14,TV.v (Ty.int IntKind.i64)) : Nat × TV) :: ([] : List (Nat × TV))) (TB.dead :: TB.nest (Ty.int IntKind.i64) :: TB.cells (TV.v (Ty.optr (Ty.prod (Ty.int IntKind.i64) (Ty.prod (Ty.slice (Ty.prod (Ty.int IntKind.i64) (Ty.prod (Ty.int IntKind.i64) (Ty.prod (Ty.int IntKind.i64) Ty.unit)))) (Ty.prod (Ty.map (Ty.prod (Ty.int IntKind.i64) (Ty.prod (Ty.int IntKind.i64) (Ty.prod (Ty.int IntKind.i64) Ty.unit))) (Ty.int IntKind.i64)) Ty.unit)))) :: ([] : List TV)) :: TB.arr (Ty.int IntKind.i64) false :: TB.arr (Ty.int IntKind.i64) true :: ([] : List TB)) (1) :: LSh.mk3 (((1,TV.slf (1) (1)) : Nat × TV) :: ((2,TV.ref (2) 1 0 0) : Nat × TV) :: ((4,TV.ref (3) 1 0 0) : Nat × TV) :: ((15,TV.ref (4) 1 0 0) : Nat × TV) :: ((144,TV.slf (5) (1)) : Nat × TV) :: ((146,TV.v (Ty.int IntKind.i64)) : Nat × TV) :: ([] : List (Nat × TV))) (TB.dead :: TB.nest (Ty.int IntKind.i64) :: TB.cells (TV.v (Ty.optr (Ty.prod (Ty.int IntKind.i64) (Ty.prod (Ty.slice (Ty.prod (Ty.int IntKind.i64) (Ty.prod (Ty.int IntKind.i64) (Ty.prod (Ty.int IntKind.i64) Ty.unit)))) (Ty.prod (Ty.map (Ty.prod (Ty.int IntKind.i64) (Ty.prod (Ty.int IntKind.i64) (Ty.prod (Ty.int IntKind.i64) Ty.unit))) (Ty.int IntKind.i64)) Ty.unit)))) :: ([] : List TV)) :: TB.arr (Ty.int IntKind.i64) false :: TB.arr (Ty.int IntKind.i64) false :: TB.arr (Ty.int IntKind.i64) true :: ([] : List TB)) (1) :: LSh.mk3 (((2,TV.ref (1) 1 0 0) : Nat × TV) :: ((4,TV.ref (2) 1 0 0) : Nat × TV) :: ((15,TV.ref (3) 1 0 0) : Nat × TV) :: ((171,TV.v (Ty.int IntKind.i64)) : Nat × TV) :: ([] : List (Nat × TV))) (TB.dead :: TB.cells (TV.v (Ty.optr (Ty.prod (Ty.int IntKind.i64) (Ty.prod (Ty.slice (Ty.prod (Ty.int IntKind.i64) (Ty.prod (Ty.int IntKind.i64) (Ty.prod (Ty.int IntKind.i64) Ty.unit)))) (Ty.prod (Ty.map (Ty.prod (Ty.int IntKind.i64) (Ty.prod (Ty.int IntKind.i64) (Ty.prod (Ty.int IntKind.i64) Ty.unit))) (Ty.int IntKind.i64)) Ty.unit)))) :: ([] : List TV)) :: TB.arr (Ty.int IntKind.i64) false :: TB.arr (Ty.int IntKind.i64) false :: ([] : List TB)) (1) :: ([] : List LSh)
end Go.Arcs
namespace Go.Arcs
open Go Go.Ab Go.Proofs
structure Red (p:Int) (R : Mx) (le : Nat → Nat) (fr:Nat) : Prop where
 lt : ∀ i,i < 5 → le i < 6
 fr6 : fr < 6
 ne : ∀ i,i < 5 → le i ≠ fr
 all : ∀ j,j < 6 → j ≠ fr → ∃ i,i < 5 ∧ j = le i
 one : ∀ i k,i < 5 → k < 5 → p ∣ R i (le k) - if i = k then 1 else 0
theorem s6_two {a b : Nat} (ha : a < 6) (hb : b < 6) (h : a ≠ b) {x y : Int} : s6 (fun j=>if j = a then x else if j = b then y else 0) = x + y:=by
 rcases lt6 ha with rfl | rfl | rfl | rfl | rfl | rfl <;> rcases lt6 hb with rfl | rfl | rfl | rfl | rfl | rfl <;> simp [s6] <;> first | omega | exact absurd rfl h
theorem red_row {p : Int} {R : Mx} {le : Nat → Nat} {fr : Nat} (h : Red p R le fr) {v : Nat → Int} {i : Nat} (hi : i < 5) : p ∣ s6 (fun j=>R i j * v j) - (R i fr * v fr + v (le i)):=by
 rw [← s6_two (x:=R i fr * v fr) (y:=v (le i)) h.fr6 (h.lt i hi) (fun e=>h.ne i hi e.symm)]
 refine s6_dvd fun j hj=>?_
 by_cases h1 : j = fr
 ·rw [if_pos h1,h1];exact ⟨0,by omega⟩
 ·rw [if_neg h1]
  obtain ⟨k,hk,rfl⟩:=h.all j hj h1
  obtain ⟨c,hc⟩:=h.one i k hi hk
  by_cases h2 : le k = le i
  ·rw [if_pos h2]
   by_cases e : i = k
   ·rw [if_pos e] at hc
    exact ⟨c * v (le k),by rw [← h2];grind⟩
   ·rw [if_neg e] at hc
    obtain ⟨d,hd⟩:=h.one i i hi hi
    rw [if_pos rfl,← h2] at hd
    exact ⟨(c - (c - d)) * v (le k),by rw [← h2];grind⟩
  ·rw [if_neg h2,if_neg (fun e=>h2 (by rw [e]))] at *
   exact ⟨c * v (le k),by grind⟩
theorem red_sol {p : Int} {R : Mx} {le : Nat → Nat} {fr : Nat} (h : Red p R le fr) {v : Nat → Int} : Sol p R v ↔ ∀ i,i < 5 → p ∣ v (le i) + R i fr * v fr:=by
 constructor
 ·intro hs i hi
  obtain ⟨a,ha⟩:=hs i hi
  obtain ⟨b,hb⟩:=red_row h (v:=v) hi
  exact ⟨a - b,by grind⟩
 ·intro hs i hi
  obtain ⟨a,ha⟩:=hs i hi
  obtain ⟨b,hb⟩:=red_row h (v:=v) hi
  exact ⟨a + b,by grind⟩
theorem red_mul {p : Int} {R : Mx} {le : Nat → Nat} {fr : Nat} (h : Red p R le fr) {v o : Nat → Int} (hv : Sol p R v) (ho : Sol p R o) (h1 : o fr = 1) : ∀ j,j < 6 → p ∣ v j - v fr * o j:=by
 intro j hj
 by_cases e : j = fr
 ·subst e;exact ⟨0,by rw [h1];omega⟩
 ·obtain ⟨i,hi,rfl⟩:=h.all j hj e
  obtain ⟨a,ha⟩:=(red_sol h).1 hv i hi
  obtain ⟨b,hb⟩:=(red_sol h).1 ho i hi
  rw [h1] at hb
  exact ⟨a - v fr * b,by grind⟩
theorem red_one {p : Int} {R : Mx} {le : Nat → Nat} {fr : Nat} (h : Red p R le fr) {o v w : Nat → Int} (ho : Sol p R o) (h1 : o fr = 1) (hv : Sol p R v) (hw : Sol p R w)
  (hvp : ∀ j,j < 6 → 0 ≤ v j ∧ v j < p) (hwp : ∀ j,j < 6 → 0 ≤ w j ∧ w j < p) {a b : Nat} (ha : a < 6) (hb : b < 6) (va : v a = 1) (wb : w b = 1) (v0 : ∀ j,j < a → v j = 0) (w0 : ∀ j,j < b → w j = 0) (hinv : ∀ x y : Int,p ∣ x * y → p ∣ x ∨ p ∣ y) (hp : 2 ≤ p) : ∀ j,j < 6 → v j = w j:=by
 have ev:=red_mul h hv ho h1
 have ew:=red_mul h hw ho h1
 have small : ∀ x : Int,p ∣ x → -p < x → x < p → x = 0:=fun x ⟨c,hc⟩ h1 h2=>by
  have h3 : c = 0:=by
   rcases Int.lt_trichotomy c 0 with h | h | h
   ·have : p * c ≤ p * (-1):=Int.mul_le_mul_of_nonneg_left (by omega) (by omega)
    omega
   ·exact h
   ·have : p * 1 ≤ p * c:=Int.mul_le_mul_of_nonneg_left (by omega) (by omega)
    omega
  rw [hc,h3];simp
 have n1 : ¬ p ∣ (1:Int):=fun h=>by have:=small 1 h (by omega) (by omega);omega
 have tv : ¬ p ∣ v fr:=fun ⟨c,hc⟩=>n1 (by obtain ⟨d,hd⟩:=ev a ha;exact ⟨d + c * o a,by grind⟩)
 have tw : ¬ p ∣ w fr:=fun ⟨c,hc⟩=>n1 (by obtain ⟨d,hd⟩:=ew b hb;exact ⟨d + c * o b,by grind⟩)
 have key : ∀ j,j < 6 → (p ∣ v j ↔ p ∣ o j):=fun j hj=>by
  obtain ⟨d,hd⟩:=ev j hj
  constructor
  ·rintro ⟨c,hc⟩
   rcases hinv (v fr) (o j) ⟨c - d,by grind⟩ with h | h
   ·exact absurd h tv
   ·exact h
  ·rintro ⟨c,hc⟩
   exact ⟨d + v fr * c,by grind⟩
 have key2 : ∀ j,j < 6 → (p ∣ w j ↔ p ∣ o j):=fun j hj=>by
  obtain ⟨d,hd⟩:=ew j hj
  constructor
  ·rintro ⟨c,hc⟩
   rcases hinv (w fr) (o j) ⟨c - d,by grind⟩ with h | h
   ·exact absurd h tw
   ·exact h
  ·rintro ⟨c,hc⟩
   exact ⟨d + w fr * c,by grind⟩
 have hab : a = b:=by
  rcases Nat.lt_trichotomy a b with h | h | h
  ·have:=(key a ha).2 ((key2 a ha).1 (by rw [w0 a h];exact ⟨0,by omega⟩))
   rw [va] at this;exact absurd this n1
  ·exact h
  ·have:=(key2 b hb).2 ((key b hb).1 (by rw [v0 b h];exact ⟨0,by omega⟩))
   rw [wb] at this;exact absurd this n1
 subst hab
 have hd : p ∣ v fr - w fr:=by
  obtain ⟨c,hc⟩:=ev a ha
  obtain ⟨d,hd⟩:=ew a ha
  have h3 : p ∣ (v fr - w fr) * o a:=⟨d - c,by grind⟩
  rcases hinv _ _ h3 with h | h
  ·exact h
  ·have:=(key a ha).2 h
   rw [va] at this;exact absurd this n1
 intro j hj
 obtain ⟨c,hc⟩:=ev j hj
 obtain ⟨d,hd'⟩:=ew j hj
 obtain ⟨e,he⟩:=hd
 have:=small (v j - w j) ⟨c - d + e * o j,by grind⟩ (by have:=hvp j hj;have:=hwp j hj;omega) (by have:=hvp j hj;have:=hwp j hj;omega)
 omega
theorem ind_row {p : Int} {R : Mx} (h : Ind p R) (hp : 2 ≤ p) {m : Nat} (hm : m < 5) : ∃ j,j < 6 ∧ ¬ p ∣ R m j:=by
 refine Classical.byContradiction fun hn=>?_
 have h0 : ∀ j,j < 6 → p ∣ R m j:=fun j hj=>Classical.byContradiction fun h=>hn ⟨j,hj,h⟩
 have:=h (fun i=>if i = m then 1 else 0) (fun j hj=>by
  have e : (s5 fun i=>(if i = m then 1 else 0) * R i j) = R m j:=by
   rcases lt5 hm with rfl | rfl | rfl | rfl | rfl <;> simp [s5]
  rw [e];exact h0 j hj) m hm
 rw [if_pos rfl] at this
 obtain ⟨c,hc⟩:=this
 rcases Int.lt_trichotomy c 0 with h | h | h
 ·have : p * c ≤ p * (-1):=Int.mul_le_mul_of_nonneg_left (by omega) (by omega)
  omega
 ·rw [h] at hc;simp at hc
 ·have : p * 1 ≤ p * c:=Int.mul_le_mul_of_nonneg_left (by omega) (by omega)
  omega
end Go.Arcs
namespace Go.Arcs
open Go Go.Ab Go.Proofs
noncomputable def rowsF (p:Int) (l:List Int) : List (List Int):=l.map fun x=>l6 (powF (pt p x))
def zero6 : A6D:=(0,0,0,0,0,0,())
noncomputable def thrX (p:Int) (l:List Int) : A6D × Int × Unit:=if okSet p l = true ∧ l.length = 5 then (if arcF p l = true then (kerF p (rowsF p l),0,()) else (zero6,5,())) else (zero6,2,())
noncomputable def con56 : Con:=mkC 56 [.d I64,.d LI] [A6,I64] (fun (p:Int) (l:List Int)=>[small l]) (fun (p:Int) (l:List Int)=>thrX p l)
noncomputable def g56_c0 (x0:Int) (x1:List Int) : Bool:=arcF (Option.getD (setF x0 x1).1 ((0,([] : List (Int × Int × Int × Unit)),([] : List ((Int × Int × Int × Unit) × Int)),()) : Int × List (Int × Int × Int × Unit) × List ((Int × Int × Int × Unit) × Int) × Unit)).1 x1
noncomputable def g56 (x0:Int) (x1:List Int) : Option ((Int × Int × Int × Int × Int × Int × Unit) × Int × Unit):=gd (small x1) (gd ((!!(setF x0 x1).2.1) = true → (!!(setF x0 x1).2.1) = true) (gd ((!!(setF x0 x1).2.1) = true → (!!(setF x0 x1).2.1) = true) (gd ((!(setF x0 x1).2.1) = false → (!!(setF x0 x1).2.1) = true) (bif bif !(setF x0 x1).2.1 then true else !ieq (↑(List.length x1):Int) 5 then gd ((6:Nat) ≤ 6) (gd ((6:Nat) ≤ 6) (some ((((0,0,0,0,0,0,()) : Int × Int × Int × Int × Int × Int × Unit),2,()) : (Int × Int × Int × Int × Int × Int × Unit) × Int × Unit))) else gd (Option.isSome (setF x0 x1).1 = true) (gd (isPl (Option.getD (setF x0 x1).1 ((0,([] : List (Int × Int × Int × Unit)),([] : List ((Int × Int × Int × Unit) × Int)),()) : Int × List (Int × Int × Int × Unit) × List ((Int × Int × Int × Unit) × Int) × Unit))) (gd (setP (Option.getD (setF x0 x1).1 ((0,([] : List (Int × Int × Int × Unit)),([] : List ((Int × Int × Int × Unit) × Int)),()) : Int × List (Int × Int × Int × Unit) × List ((Int × Int × Int × Unit) × Int) × Unit)).1 x1) (bif !g56_c0 x0 x1 then gd ((6:Nat) ≤ 6) (gd ((6:Nat) ≤ 6) (some ((((0,0,0,0,0,0,()) : Int × Int × Int × Int × Int × Int × Unit),5,()) : (Int × Int × Int × Int × Int × Int × Unit) × Int × Unit))) else gd ((0:Nat) = 0) (whileO (fun (d2 : Int × List Int × List (List Int) × Unit)=>bif ilt d2.1 (↑(List.length x1):Int) then gd (0 ≤ d2.1 ∧ d2.1 < (↑(List.length x1):Int)) (gd (Option.isSome (setF x0 x1).1 = true) (gd (0 ≤ List.getD x1 (Int.toNat d2.1) 0 ∧ List.getD x1 (Int.toNat d2.1) 0 < (↑(List.length (Option.getD (setF x0 x1).1 ((0,([] : List (Int × Int × Int × Unit)),([] : List ((Int × Int × Int × Unit) × Int)),()) : Int × List (Int × Int × Int × Unit) × List ((Int × Int × Int × Unit) × Int) × Unit)).2.1):Int)) (gd ((0 ≤ (List.getD (Option.getD (setF x0 x1).1 ((0,([] : List (Int × Int × Int × Unit)),([] : List ((Int × Int × Int × Unit) × Int)),()) : Int × List (Int × Int × Int × Unit) × List ((Int × Int × Int × Unit) × Int) × Unit)).2.1 (Int.toNat (List.getD x1 (Int.toNat d2.1) 0)) ((0,0,0,()) : Int × Int × Int × Unit)).1 ∧ (List.getD (Option.getD (setF x0 x1).1 ((0,([] : List (Int × Int × Int × Unit)),([] : List ((Int × Int × Int × Unit) × Int)),()) : Int × List (Int × Int × Int × Unit) × List ((Int × Int × Int × Unit) × Int) × Unit)).2.1 (Int.toNat (List.getD x1 (Int.toNat d2.1) 0)) ((0,0,0,()) : Int × Int × Int × Unit)).1 < 7) ∧ (0 ≤ (List.getD (Option.getD (setF x0 x1).1 ((0,([] : List (Int × Int × Int × Unit)),([] : List ((Int × Int × Int × Unit) × Int)),()) : Int × List (Int × Int × Int × Unit) × List ((Int × Int × Int × Unit) × Int) × Unit)).2.1 (Int.toNat (List.getD x1 (Int.toNat d2.1) 0)) ((0,0,0,()) : Int × Int × Int × Unit)).2.1 ∧ (List.getD (Option.getD (setF x0 x1).1 ((0,([] : List (Int × Int × Int × Unit)),([] : List ((Int × Int × Int × Unit) × Int)),()) : Int × List (Int × Int × Int × Unit) × List ((Int × Int × Int × Unit) × Int) × Unit)).2.1 (Int.toNat (List.getD x1 (Int.toNat d2.1) 0)) ((0,0,0,()) : Int × Int × Int × Unit)).2.1 < 7) ∧ 0 ≤ (List.getD (Option.getD (setF x0 x1).1 ((0,([] : List (Int × Int × Int × Unit)),([] : List ((Int × Int × Int × Unit) × Int)),()) : Int × List (Int × Int × Int × Unit) × List ((Int × Int × Int × Unit) × Int) × Unit)).2.1 (Int.toNat (List.getD x1 (Int.toNat d2.1) 0)) ((0,0,0,()) : Int × Int × Int × Unit)).2.2.1 ∧ (List.getD (Option.getD (setF x0 x1).1 ((0,([] : List (Int × Int × Int × Unit)),([] : List ((Int × Int × Int × Unit) × Int)),()) : Int × List (Int × Int × Int × Unit) × List ((Int × Int × Int × Unit) × Int) × Unit)).2.1 (Int.toNat (List.getD x1 (Int.toNat d2.1) 0)) ((0,0,0,()) : Int × Int × Int × Unit)).2.2.1 < 7) (gd ((6:Nat) ≤ 6) (gd ((6:Nat) = 6) (gd ((6:Nat) = 6) (gd (List.length d2.2.2.1 ≤ List.length d2.2.2.1) (gd ((List.length d2.2.2.1 + 1) * (24:Nat) ≤ 1099511627776) (gd (List.length d2.2.2.1 + 1 = List.length (List.take (List.length d2.2.2.1) d2.2.2.1 ++ ((powF (List.getD (Option.getD (setF x0 x1).1 ((0,([] : List (Int × Int × Int × Unit)),([] : List ((Int × Int × Int × Unit) × Int)),()) : Int × List (Int × Int × Int × Unit) × List ((Int × Int × Int × Unit) × Int) × Unit)).2.1 (Int.toNat (List.getD x1 (Int.toNat d2.1) 0)) ((0,0,0,()) : Int × Int × Int × Unit))).1 :: (powF (List.getD (Option.getD (setF x0 x1).1 ((0,([] : List (Int × Int × Int × Unit)),([] : List ((Int × Int × Int × Unit) × Int)),()) : Int × List (Int × Int × Int × Unit) × List ((Int × Int × Int × Unit) × Int) × Unit)).2.1 (Int.toNat (List.getD x1 (Int.toNat d2.1) 0)) ((0,0,0,()) : Int × Int × Int × Unit))).2.1 :: (powF (List.getD (Option.getD (setF x0 x1).1 ((0,([] : List (Int × Int × Int × Unit)),([] : List ((Int × Int × Int × Unit) × Int)),()) : Int × List (Int × Int × Int × Unit) × List ((Int × Int × Int × Unit) × Int) × Unit)).2.1 (Int.toNat (List.getD x1 (Int.toNat d2.1) 0)) ((0,0,0,()) : Int × Int × Int × Unit))).2.2.1 :: (powF (List.getD (Option.getD (setF x0 x1).1 ((0,([] : List (Int × Int × Int × Unit)),([] : List ((Int × Int × Int × Unit) × Int)),()) : Int × List (Int × Int × Int × Unit) × List ((Int × Int × Int × Unit) × Int) × Unit)).2.1 (Int.toNat (List.getD x1 (Int.toNat d2.1) 0)) ((0,0,0,()) : Int × Int × Int × Unit))).2.2.2.1 :: (powF (List.getD (Option.getD (setF x0 x1).1 ((0,([] : List (Int × Int × Int × Unit)),([] : List ((Int × Int × Int × Unit) × Int)),()) : Int × List (Int × Int × Int × Unit) × List ((Int × Int × Int × Unit) × Int) × Unit)).2.1 (Int.toNat (List.getD x1 (Int.toNat d2.1) 0)) ((0,0,0,()) : Int × Int × Int × Unit))).2.2.2.2.1 :: (powF (List.getD (Option.getD (setF x0 x1).1 ((0,([] : List (Int × Int × Int × Unit)),([] : List ((Int × Int × Int × Unit) × Int)),()) : Int × List (Int × Int × Int × Unit) × List ((Int × Int × Int × Unit) × Int) × Unit)).2.1 (Int.toNat (List.getD x1 (Int.toNat d2.1) 0)) ((0,0,0,()) : Int × Int × Int × Unit))).2.2.2.2.2.1 :: ([]:List Int)) :: ([]:List (List Int)))) (some (Lp.go ((wr .i64 (d2.1 + 1),d2.2.1,List.take (List.length d2.2.2.1) d2.2.2.1 ++ ((powF (List.getD (Option.getD (setF x0 x1).1 ((0,([] : List (Int × Int × Int × Unit)),([] : List ((Int × Int × Int × Unit) × Int)),()) : Int × List (Int × Int × Int × Unit) × List ((Int × Int × Int × Unit) × Int) × Unit)).2.1 (Int.toNat (List.getD x1 (Int.toNat d2.1) 0)) ((0,0,0,()) : Int × Int × Int × Unit))).1 :: (powF (List.getD (Option.getD (setF x0 x1).1 ((0,([] : List (Int × Int × Int × Unit)),([] : List ((Int × Int × Int × Unit) × Int)),()) : Int × List (Int × Int × Int × Unit) × List ((Int × Int × Int × Unit) × Int) × Unit)).2.1 (Int.toNat (List.getD x1 (Int.toNat d2.1) 0)) ((0,0,0,()) : Int × Int × Int × Unit))).2.1 :: (powF (List.getD (Option.getD (setF x0 x1).1 ((0,([] : List (Int × Int × Int × Unit)),([] : List ((Int × Int × Int × Unit) × Int)),()) : Int × List (Int × Int × Int × Unit) × List ((Int × Int × Int × Unit) × Int) × Unit)).2.1 (Int.toNat (List.getD x1 (Int.toNat d2.1) 0)) ((0,0,0,()) : Int × Int × Int × Unit))).2.2.1 :: (powF (List.getD (Option.getD (setF x0 x1).1 ((0,([] : List (Int × Int × Int × Unit)),([] : List ((Int × Int × Int × Unit) × Int)),()) : Int × List (Int × Int × Int × Unit) × List ((Int × Int × Int × Unit) × Int) × Unit)).2.1 (Int.toNat (List.getD x1 (Int.toNat d2.1) 0)) ((0,0,0,()) : Int × Int × Int × Unit))).2.2.2.1 :: (powF (List.getD (Option.getD (setF x0 x1).1 ((0,([] : List (Int × Int × Int × Unit)),([] : List ((Int × Int × Int × Unit) × Int)),()) : Int × List (Int × Int × Int × Unit) × List ((Int × Int × Int × Unit) × Int) × Unit)).2.1 (Int.toNat (List.getD x1 (Int.toNat d2.1) 0)) ((0,0,0,()) : Int × Int × Int × Unit))).2.2.2.2.1 :: (powF (List.getD (Option.getD (setF x0 x1).1 ((0,([] : List (Int × Int × Int × Unit)),([] : List ((Int × Int × Int × Unit) × Int)),()) : Int × List (Int × Int × Int × Unit) × List ((Int × Int × Int × Unit) × Int) × Unit)).2.1 (Int.toNat (List.getD x1 (Int.toNat d2.1) 0)) ((0,0,0,()) : Int × Int × Int × Unit))).2.2.2.2.2.1 :: ([]:List Int)) :: ([]:List (List Int)),()) : Int × List Int × List (List Int) × Unit)))))))))))) else gd (List.length d2.2.2.1 = List.length d2.2.2.1) (gd (Option.isSome (setF x0 x1).1 = true) (gd (isPl (Option.getD (setF x0 x1).1 ((0,([] : List (Int × Int × Int × Unit)),([] : List ((Int × Int × Int × Unit) × Int)),()) : Int × List (Int × Int × Int × Unit) × List ((Int × Int × Int × Unit) × Int) × Unit))) (gd (rowsB d2.2.2.1) (gd (Ind (Option.getD (setF x0 x1).1 ((0,([] : List (Int × Int × Int × Unit)),([] : List ((Int × Int × Int × Unit) × Int)),()) : Int × List (Int × Int × Int × Unit) × List ((Int × Int × Int × Unit) × Int) × Unit)).1 fun (d3 d4:Nat)=>List.getD (List.getD d2.2.2.1 d3 ([]:List Int)) d4 0) (gd (6 ≤ List.length d2.2.1) (gd (6 ≤ List.length (setMany d2.2.1 0 ((kerF (Option.getD (setF x0 x1).1 ((0,([] : List (Int × Int × Int × Unit)),([] : List ((Int × Int × Int × Unit) × Int)),()) : Int × List (Int × Int × Int × Unit) × List ((Int × Int × Int × Unit) × Int) × Unit)).1 d2.2.2.1).1 :: (kerF (Option.getD (setF x0 x1).1 ((0,([] : List (Int × Int × Int × Unit)),([] : List ((Int × Int × Int × Unit) × Int)),()) : Int × List (Int × Int × Int × Unit) × List ((Int × Int × Int × Unit) × Int) × Unit)).1 d2.2.2.1).2.1 :: (kerF (Option.getD (setF x0 x1).1 ((0,([] : List (Int × Int × Int × Unit)),([] : List ((Int × Int × Int × Unit) × Int)),()) : Int × List (Int × Int × Int × Unit) × List ((Int × Int × Int × Unit) × Int) × Unit)).1 d2.2.2.1).2.2.1 :: (kerF (Option.getD (setF x0 x1).1 ((0,([] : List (Int × Int × Int × Unit)),([] : List ((Int × Int × Int × Unit) × Int)),()) : Int × List (Int × Int × Int × Unit) × List ((Int × Int × Int × Unit) × Int) × Unit)).1 d2.2.2.1).2.2.2.1 :: (kerF (Option.getD (setF x0 x1).1 ((0,([] : List (Int × Int × Int × Unit)),([] : List ((Int × Int × Int × Unit) × Int)),()) : Int × List (Int × Int × Int × Unit) × List ((Int × Int × Int × Unit) × Int) × Unit)).1 d2.2.2.1).2.2.2.2.1 :: (kerF (Option.getD (setF x0 x1).1 ((0,([] : List (Int × Int × Int × Unit)),([] : List ((Int × Int × Int × Unit) × Int)),()) : Int × List (Int × Int × Int × Unit) × List ((Int × Int × Int × Unit) × Int) × Unit)).1 d2.2.2.1).2.2.2.2.2.1 :: ([]:List Int)))) (some (Lp.out ((((List.getD (setMany d2.2.1 0 ((kerF (Option.getD (setF x0 x1).1 ((0,([] : List (Int × Int × Int × Unit)),([] : List ((Int × Int × Int × Unit) × Int)),()) : Int × List (Int × Int × Int × Unit) × List ((Int × Int × Int × Unit) × Int) × Unit)).1 d2.2.2.1).1 :: (kerF (Option.getD (setF x0 x1).1 ((0,([] : List (Int × Int × Int × Unit)),([] : List ((Int × Int × Int × Unit) × Int)),()) : Int × List (Int × Int × Int × Unit) × List ((Int × Int × Int × Unit) × Int) × Unit)).1 d2.2.2.1).2.1 :: (kerF (Option.getD (setF x0 x1).1 ((0,([] : List (Int × Int × Int × Unit)),([] : List ((Int × Int × Int × Unit) × Int)),()) : Int × List (Int × Int × Int × Unit) × List ((Int × Int × Int × Unit) × Int) × Unit)).1 d2.2.2.1).2.2.1 :: (kerF (Option.getD (setF x0 x1).1 ((0,([] : List (Int × Int × Int × Unit)),([] : List ((Int × Int × Int × Unit) × Int)),()) : Int × List (Int × Int × Int × Unit) × List ((Int × Int × Int × Unit) × Int) × Unit)).1 d2.2.2.1).2.2.2.1 :: (kerF (Option.getD (setF x0 x1).1 ((0,([] : List (Int × Int × Int × Unit)),([] : List ((Int × Int × Int × Unit) × Int)),()) : Int × List (Int × Int × Int × Unit) × List ((Int × Int × Int × Unit) × Int) × Unit)).1 d2.2.2.1).2.2.2.2.1 :: (kerF (Option.getD (setF x0 x1).1 ((0,([] : List (Int × Int × Int × Unit)),([] : List ((Int × Int × Int × Unit) × Int)),()) : Int × List (Int × Int × Int × Unit) × List ((Int × Int × Int × Unit) × Int) × Unit)).1 d2.2.2.1).2.2.2.2.2.1 :: ([]:List Int))) 0 0,List.getD (setMany d2.2.1 0 ((kerF (Option.getD (setF x0 x1).1 ((0,([] : List (Int × Int × Int × Unit)),([] : List ((Int × Int × Int × Unit) × Int)),()) : Int × List (Int × Int × Int × Unit) × List ((Int × Int × Int × Unit) × Int) × Unit)).1 d2.2.2.1).1 :: (kerF (Option.getD (setF x0 x1).1 ((0,([] : List (Int × Int × Int × Unit)),([] : List ((Int × Int × Int × Unit) × Int)),()) : Int × List (Int × Int × Int × Unit) × List ((Int × Int × Int × Unit) × Int) × Unit)).1 d2.2.2.1).2.1 :: (kerF (Option.getD (setF x0 x1).1 ((0,([] : List (Int × Int × Int × Unit)),([] : List ((Int × Int × Int × Unit) × Int)),()) : Int × List (Int × Int × Int × Unit) × List ((Int × Int × Int × Unit) × Int) × Unit)).1 d2.2.2.1).2.2.1 :: (kerF (Option.getD (setF x0 x1).1 ((0,([] : List (Int × Int × Int × Unit)),([] : List ((Int × Int × Int × Unit) × Int)),()) : Int × List (Int × Int × Int × Unit) × List ((Int × Int × Int × Unit) × Int) × Unit)).1 d2.2.2.1).2.2.2.1 :: (kerF (Option.getD (setF x0 x1).1 ((0,([] : List (Int × Int × Int × Unit)),([] : List ((Int × Int × Int × Unit) × Int)),()) : Int × List (Int × Int × Int × Unit) × List ((Int × Int × Int × Unit) × Int) × Unit)).1 d2.2.2.1).2.2.2.2.1 :: (kerF (Option.getD (setF x0 x1).1 ((0,([] : List (Int × Int × Int × Unit)),([] : List ((Int × Int × Int × Unit) × Int)),()) : Int × List (Int × Int × Int × Unit) × List ((Int × Int × Int × Unit) × Int) × Unit)).1 d2.2.2.1).2.2.2.2.2.1 :: ([]:List Int))) 1 0,List.getD (setMany d2.2.1 0 ((kerF (Option.getD (setF x0 x1).1 ((0,([] : List (Int × Int × Int × Unit)),([] : List ((Int × Int × Int × Unit) × Int)),()) : Int × List (Int × Int × Int × Unit) × List ((Int × Int × Int × Unit) × Int) × Unit)).1 d2.2.2.1).1 :: (kerF (Option.getD (setF x0 x1).1 ((0,([] : List (Int × Int × Int × Unit)),([] : List ((Int × Int × Int × Unit) × Int)),()) : Int × List (Int × Int × Int × Unit) × List ((Int × Int × Int × Unit) × Int) × Unit)).1 d2.2.2.1).2.1 :: (kerF (Option.getD (setF x0 x1).1 ((0,([] : List (Int × Int × Int × Unit)),([] : List ((Int × Int × Int × Unit) × Int)),()) : Int × List (Int × Int × Int × Unit) × List ((Int × Int × Int × Unit) × Int) × Unit)).1 d2.2.2.1).2.2.1 :: (kerF (Option.getD (setF x0 x1).1 ((0,([] : List (Int × Int × Int × Unit)),([] : List ((Int × Int × Int × Unit) × Int)),()) : Int × List (Int × Int × Int × Unit) × List ((Int × Int × Int × Unit) × Int) × Unit)).1 d2.2.2.1).2.2.2.1 :: (kerF (Option.getD (setF x0 x1).1 ((0,([] : List (Int × Int × Int × Unit)),([] : List ((Int × Int × Int × Unit) × Int)),()) : Int × List (Int × Int × Int × Unit) × List ((Int × Int × Int × Unit) × Int) × Unit)).1 d2.2.2.1).2.2.2.2.1 :: (kerF (Option.getD (setF x0 x1).1 ((0,([] : List (Int × Int × Int × Unit)),([] : List ((Int × Int × Int × Unit) × Int)),()) : Int × List (Int × Int × Int × Unit) × List ((Int × Int × Int × Unit) × Int) × Unit)).1 d2.2.2.1).2.2.2.2.2.1 :: ([]:List Int))) 2 0,List.getD (setMany d2.2.1 0 ((kerF (Option.getD (setF x0 x1).1 ((0,([] : List (Int × Int × Int × Unit)),([] : List ((Int × Int × Int × Unit) × Int)),()) : Int × List (Int × Int × Int × Unit) × List ((Int × Int × Int × Unit) × Int) × Unit)).1 d2.2.2.1).1 :: (kerF (Option.getD (setF x0 x1).1 ((0,([] : List (Int × Int × Int × Unit)),([] : List ((Int × Int × Int × Unit) × Int)),()) : Int × List (Int × Int × Int × Unit) × List ((Int × Int × Int × Unit) × Int) × Unit)).1 d2.2.2.1).2.1 :: (kerF (Option.getD (setF x0 x1).1 ((0,([] : List (Int × Int × Int × Unit)),([] : List ((Int × Int × Int × Unit) × Int)),()) : Int × List (Int × Int × Int × Unit) × List ((Int × Int × Int × Unit) × Int) × Unit)).1 d2.2.2.1).2.2.1 :: (kerF (Option.getD (setF x0 x1).1 ((0,([] : List (Int × Int × Int × Unit)),([] : List ((Int × Int × Int × Unit) × Int)),()) : Int × List (Int × Int × Int × Unit) × List ((Int × Int × Int × Unit) × Int) × Unit)).1 d2.2.2.1).2.2.2.1 :: (kerF (Option.getD (setF x0 x1).1 ((0,([] : List (Int × Int × Int × Unit)),([] : List ((Int × Int × Int × Unit) × Int)),()) : Int × List (Int × Int × Int × Unit) × List ((Int × Int × Int × Unit) × Int) × Unit)).1 d2.2.2.1).2.2.2.2.1 :: (kerF (Option.getD (setF x0 x1).1 ((0,([] : List (Int × Int × Int × Unit)),([] : List ((Int × Int × Int × Unit) × Int)),()) : Int × List (Int × Int × Int × Unit) × List ((Int × Int × Int × Unit) × Int) × Unit)).1 d2.2.2.1).2.2.2.2.2.1 :: ([]:List Int))) 3 0,List.getD (setMany d2.2.1 0 ((kerF (Option.getD (setF x0 x1).1 ((0,([] : List (Int × Int × Int × Unit)),([] : List ((Int × Int × Int × Unit) × Int)),()) : Int × List (Int × Int × Int × Unit) × List ((Int × Int × Int × Unit) × Int) × Unit)).1 d2.2.2.1).1 :: (kerF (Option.getD (setF x0 x1).1 ((0,([] : List (Int × Int × Int × Unit)),([] : List ((Int × Int × Int × Unit) × Int)),()) : Int × List (Int × Int × Int × Unit) × List ((Int × Int × Int × Unit) × Int) × Unit)).1 d2.2.2.1).2.1 :: (kerF (Option.getD (setF x0 x1).1 ((0,([] : List (Int × Int × Int × Unit)),([] : List ((Int × Int × Int × Unit) × Int)),()) : Int × List (Int × Int × Int × Unit) × List ((Int × Int × Int × Unit) × Int) × Unit)).1 d2.2.2.1).2.2.1 :: (kerF (Option.getD (setF x0 x1).1 ((0,([] : List (Int × Int × Int × Unit)),([] : List ((Int × Int × Int × Unit) × Int)),()) : Int × List (Int × Int × Int × Unit) × List ((Int × Int × Int × Unit) × Int) × Unit)).1 d2.2.2.1).2.2.2.1 :: (kerF (Option.getD (setF x0 x1).1 ((0,([] : List (Int × Int × Int × Unit)),([] : List ((Int × Int × Int × Unit) × Int)),()) : Int × List (Int × Int × Int × Unit) × List ((Int × Int × Int × Unit) × Int) × Unit)).1 d2.2.2.1).2.2.2.2.1 :: (kerF (Option.getD (setF x0 x1).1 ((0,([] : List (Int × Int × Int × Unit)),([] : List ((Int × Int × Int × Unit) × Int)),()) : Int × List (Int × Int × Int × Unit) × List ((Int × Int × Int × Unit) × Int) × Unit)).1 d2.2.2.1).2.2.2.2.2.1 :: ([]:List Int))) 4 0,List.getD (setMany d2.2.1 0 ((kerF (Option.getD (setF x0 x1).1 ((0,([] : List (Int × Int × Int × Unit)),([] : List ((Int × Int × Int × Unit) × Int)),()) : Int × List (Int × Int × Int × Unit) × List ((Int × Int × Int × Unit) × Int) × Unit)).1 d2.2.2.1).1 :: (kerF (Option.getD (setF x0 x1).1 ((0,([] : List (Int × Int × Int × Unit)),([] : List ((Int × Int × Int × Unit) × Int)),()) : Int × List (Int × Int × Int × Unit) × List ((Int × Int × Int × Unit) × Int) × Unit)).1 d2.2.2.1).2.1 :: (kerF (Option.getD (setF x0 x1).1 ((0,([] : List (Int × Int × Int × Unit)),([] : List ((Int × Int × Int × Unit) × Int)),()) : Int × List (Int × Int × Int × Unit) × List ((Int × Int × Int × Unit) × Int) × Unit)).1 d2.2.2.1).2.2.1 :: (kerF (Option.getD (setF x0 x1).1 ((0,([] : List (Int × Int × Int × Unit)),([] : List ((Int × Int × Int × Unit) × Int)),()) : Int × List (Int × Int × Int × Unit) × List ((Int × Int × Int × Unit) × Int) × Unit)).1 d2.2.2.1).2.2.2.1 :: (kerF (Option.getD (setF x0 x1).1 ((0,([] : List (Int × Int × Int × Unit)),([] : List ((Int × Int × Int × Unit) × Int)),()) : Int × List (Int × Int × Int × Unit) × List ((Int × Int × Int × Unit) × Int) × Unit)).1 d2.2.2.1).2.2.2.2.1 :: (kerF (Option.getD (setF x0 x1).1 ((0,([] : List (Int × Int × Int × Unit)),([] : List ((Int × Int × Int × Unit) × Int)),()) : Int × List (Int × Int × Int × Unit) × List ((Int × Int × Int × Unit) × Int) × Unit)).1 d2.2.2.1).2.2.2.2.2.1 :: ([]:List Int))) 5 0,()) : Int × Int × Int × Int × Int × Int × Unit),0,()) : (Int × Int × Int × Int × Int × Int × Unit) × Int × Unit)))))))))) ((0,0 :: 0 :: 0 :: 0 :: 0 :: 0 :: ([]:List Int),([]:List (List Int)),()) : Int × List Int × List (List Int) × Unit)))))))))
noncomputable def g56_sh : List LSh:=LSh.mk (((4,TV.ref (0) 1 0 0) : Nat × TV) :: ((8,TV.slf (1) (1)) : Nat × TV) :: ((35,TV.v (Ty.int IntKind.i64)) : Nat × TV) :: ([] : List (Nat × TV))) (TB.arr (Ty.int IntKind.i64) false :: TB.nest (Ty.int IntKind.i64) :: ([] : List TB)) :: ([] : List LSh)
end Go.Arcs
namespace Go.Arcs
open Go Go.Ab Go.Proofs
theorem goal122 : con122.goal Try.prog (spOf [conMod]) g122_sh [] lm30:=by
 have e : (∀ (r:List Int) (k : Option PlaneD) (c:Int),k.isSome = true → (k.getD plN).1 ≠ 0 → (0 ≤ c ∧ c < r.length) → g122 r k c = some (nzR (k.getD plN).1 c r,())) = con122.goal Try.prog (spOf [conMod]) g122_sh [] lm30:=by kernel_rfl
 rw [← e]
 intro r k c hk h0 hc
 unfold g122 nzR
 rw [gd_pos hc,gd_pos hk]
 exact gd_pos h0
set_option maxRecDepth 100000 in
theorem ok122 : con122.Ok Try.prog:=Con.of_goal mixed (okC okMod okN) con122 goal122
theorem goal121 : con121.goal Try.prog (spOf [con122]) g121_sh [] lm30:=by
 have e : (∀ (a:List (List Int)) (k : Option PlaneD) (c:Int),k.isSome = true → (k.getD plN).1 ≠ 0 → (a.length ≤ 1000 ∧ 0 ≤ c ∧ ∀ r ∈ a,c < r.length) → g121 a k c = some (ixR (k.getD plN).1 c a 0,())) = con121.goal Try.prog (spOf [con122]) g121_sh [] lm30:=by kernel_rfl
 rw [← e]
 rintro a k c hk h0 ⟨hl,hc,hr⟩
 have h0' : (Option.getD k ((0,([] : List TripD),([] : List (TripD × Int)),()) : PlaneD)).1 ≠ 0:=h0
 have main : ∀ (n i:Nat),i + n = a.length → ∀ (F : Option PlaneD × Int × Int × Unit → Option (Lp (Option PlaneD × Int × Int × Unit) (Int × Unit))),(∀ i : Nat,i < a.length → nzR (k.getD plN).1 c (a.getD i []) = true → F (k,c,(i:Int),()) = some (.out ((i:Int),()))) → (∀ i : Nat,i < a.length → nzR (k.getD plN).1 c (a.getD i []) = false → F (k,c,(i:Int),()) = some (.go (k,c,((i + 1:Nat):Int),()))) → F (k,c,(a.length:Int),()) = some (.out ((-1:Int),())) → whileO F (k,c,(i:Int),()) = some (ixR (k.getD plN).1 c (a.drop i) i,()):=by
  intro n
  induction n with
  | zero =>
   intro i hi F h1 h2 h3
   have : i = a.length:=by omega
   subst this
   rw [List.drop_length]
   exact whileO_out h3
  | succ n ih =>
   intro i hi F h1 h2 h3
   have hil : i < a.length:=by omega
   have ed : a.drop i = a.getD i [] :: a.drop (i + 1):=by rw [List.drop_eq_getElem_cons hil,List.getD_eq_getElem?_getD,List.getElem?_eq_getElem hil];rfl
   rw [ed]
   cases hb : nzR (k.getD plN).1 c (a.getD i []) with
   | true =>
    rw [ixR,if_pos hb]
    exact whileO_out (h1 i hil hb)
   | false =>
    rw [ixR,if_neg (by rw [hb];simp)]
    exact (whileO_go (h2 i hil hb)).trans (by have:=ih (i + 1) (by omega) F h1 h2 h3;rw [this];rfl)
 have hel : ∀ i : Nat,i < a.length → c < ((a.getD i []).length:Int):=fun i hi=>by
  rw [List.getD_eq_getElem?_getD,List.getElem?_eq_getElem hi]
  exact hr _ (List.getElem_mem hi)
 unfold g121
 refine (main a.length 0 (by omega) _ ?_ ?_ ?_).trans (by rw [List.drop_zero];rfl)
 ·intro i hi hb
  have hlt:=ilt_iff.2 (show (i:Int) < (a.length:Int) by omega)
  simp only [hlt,cond_true,Int.toNat_natCast]
  rw [gd_pos ⟨by omega,by omega⟩,gd_pos hk]
  refine (gd_pos h0').trans ?_
  rw [gd_pos ⟨hc,hel i hi⟩]
  exact cond_t hb
 ·intro i hi hb
  have hlt:=ilt_iff.2 (show (i:Int) < (a.length:Int) by omega)
  simp only [hlt,cond_true,Int.toNat_natCast]
  rw [gd_pos ⟨by omega,by omega⟩,gd_pos hk]
  refine (gd_pos h0').trans ?_
  rw [gd_pos ⟨hc,hel i hi⟩,wr_id (by omega)]
  exact cond_f hb
 ·exact cond_f (ilt_false.2 (Int.le_refl _))
set_option maxRecDepth 100000 in
theorem ok121 : con121.Ok Try.prog:=Con.of_goal mixed (okC ok122 okN) con121 goal121
theorem goal123 : con123.goal Try.prog (spOf []) g123_sh [] lm30:=by
 have e : (∀ (x:Int),g123 x = some (!ieq x 0,())) = con123.goal Try.prog (spOf []) g123_sh [] lm30:=by kernel_rfl
 rw [← e]
 intro x
 rfl
set_option maxRecDepth 100000 in
theorem ok123 : con123.Ok Try.prog:=Con.of_goal mixed okN con123 goal123
set_option maxRecDepth 100000 in
theorem goal99k : con99k.goal Try.prog (spOf [con123]) g99k_sh [] lm30:=by
 have e : (∀ (l:List Int),small l → g99k l = some (nzI l 0,())) = con99k.goal Try.prog (spOf [con123]) g99k_sh [] lm30:=by kernel_rfl
 have e1 : (∀ (l:List Int),small l → g99c l = some (nzI l 0,())) = con99c.goal Try.prog (spOf [con100]) g99c_sh [] lm30:=by kernel_rfl
 have h9:=goal99c
 rw [← e1] at h9
 rw [← e]
 intro l hs
 have e2 : g99k l = g99c l:=by unfold g99k g99c;rfl
 rw [e2]
 exact h9 l hs
set_option maxRecDepth 100000 in
theorem ok99k : con99k.Ok Try.prog:=Con.of_goal mixed (okC ok123 okN) con99k goal99k
end Go.Arcs
namespace Go.Arcs
open Go Go.Ab Go.Proofs
end Go.Arcs
namespace Go.Arcs
open Go Go.Ab Go.Proofs
def qC (A B C D : TripD) : Nat → Int:=fun j =>
 let u0:=A.2.1 * B.2.2.1 - A.2.2.1 * B.2.1
 let u1:=A.2.2.1 * B.1 - A.1 * B.2.2.1
 let u2:=A.1 * B.2.1 - A.2.1 * B.1
 let v0:=C.2.1 * D.2.2.1 - C.2.2.1 * D.2.1
 let v1:=C.2.2.1 * D.1 - C.1 * D.2.2.1
 let v2:=C.1 * D.2.1 - C.2.1 * D.1
 match j with
 | 0=>u0 * v0
 | 1=>u1 * v1
 | 2=>u2 * v2
 | 3=>u0 * v1 + u1 * v0
 | 4=>u0 * v2 + u2 * v0
 | _=>u1 * v2 + u2 * v1
def evQ (q : Nat → Int) (x : TripD) : Int:=s6 fun j=>(l6 (powF x)).getD j 0 * q j
theorem evQ_lines {A B C D x : TripD} : evQ (qC A B C D) x = trip A B x * trip C D x:=by
 obtain ⟨a0,a1,a2,⟨⟩⟩:=A
 obtain ⟨b0,b1,b2,⟨⟩⟩:=B
 obtain ⟨c0,c1,c2,⟨⟩⟩:=C
 obtain ⟨d0,d1,d2,⟨⟩⟩:=D
 obtain ⟨x0,x1,x2,⟨⟩⟩:=x
 simp [evQ,s6,qC,l6,powF,trip,detM,colsF]
 grind
theorem trip_1 {A B : TripD} : trip A B A = 0:=by
 obtain ⟨a0,a1,a2,⟨⟩⟩:=A
 obtain ⟨b0,b1,b2,⟨⟩⟩:=B
 simp [trip,detM,colsF]
 grind
theorem trip_2 {A B : TripD} : trip A B B = 0:=by
 obtain ⟨a0,a1,a2,⟨⟩⟩:=A
 obtain ⟨b0,b1,b2,⟨⟩⟩:=B
 simp [trip,detM,colsF]
 grind
theorem evQ_sum {R : Mx} {q : Nat → Int} {l : Nat → Int} : s6 (fun j=>q j * s5 fun i=>l i * R i j) = s5 fun i=>l i * s6 fun j=>R i j * q j:=by unfold s5 s6;grind
theorem ind_one {p : Int} {R : Mx} {l q : Nat → Int} (h : ∀ j,j < 6 → p ∣ s5 fun i=>l i * R i j) {m : Nat} (hm : m < 5) (h0 : ∀ i,i < 5 → i ≠ m → (s6 fun j=>R i j * q j) = 0) : p ∣ l m * s6 fun j=>R m j * q j:=by
 have h1 : p ∣ s6 (fun j=>q j * s5 fun i=>l i * R i j) - s6 fun _=>0:=s6_dvd fun j hj=>by
  obtain ⟨c,hc⟩:=h j hj
  exact ⟨q j * c,by rw [hc];grind⟩
 rw [evQ_sum] at h1
 have e : (s5 fun i=>l i * s6 fun j=>R i j * q j) = l m * s6 fun j=>R m j * q j:=by
  rcases lt5 hm with rfl | rfl | rfl | rfl | rfl
  ·unfold s5;simp only [];rw [h0 1 (by omega) (by omega),h0 2 (by omega) (by omega),h0 3 (by omega) (by omega),h0 4 (by omega) (by omega)];grind
  ·unfold s5;simp only [];rw [h0 0 (by omega) (by omega),h0 2 (by omega) (by omega),h0 3 (by omega) (by omega),h0 4 (by omega) (by omega)];grind
  ·unfold s5;simp only [];rw [h0 0 (by omega) (by omega),h0 1 (by omega) (by omega),h0 3 (by omega) (by omega),h0 4 (by omega) (by omega)];grind
  ·unfold s5;simp only [];rw [h0 0 (by omega) (by omega),h0 1 (by omega) (by omega),h0 2 (by omega) (by omega),h0 4 (by omega) (by omega)];grind
  ·unfold s5;simp only [];rw [h0 0 (by omega) (by omega),h0 1 (by omega) (by omega),h0 2 (by omega) (by omega),h0 3 (by omega) (by omega)];grind
 rw [e] at h1
 have z : (s6 fun _=>0) = 0:=rfl
 rw [z,Int.sub_zero] at h1
 exact h1
theorem five {l : List Int} (h : l.length = 5) : ∃ a b c d e,l = [a,b,c,d,e]:=by
 match l,h with
 | [a,b,c,d,e],_=>exact ⟨a,b,c,d,e,rfl⟩
theorem arc_ind {p : Int} (hp : isP p) {l : List Int} (h5 : l.length = 5) (hr : ris l = true) (h : arcF p l = true) : Ind p (mxL (rowsF p l)):=by
 obtain ⟨a,b,c,d,e,rfl⟩:=five h5
 have hlt : a < b ∧ b < c ∧ c < d ∧ d < e:=by
  have : ris [a,b,c,d,e] = true:=hr
  simp [ris] at this
  omega
 have ev : ∀ (q : Nat → Int) (i:Nat),i < 5 → (s6 fun j=>mxL (rowsF p [a,b,c,d,e]) i j * q j) = evQ q (pt p ([a,b,c,d,e].getD i 0)):=fun q i hi=>by
  rcases lt5 hi with rfl | rfl | rfl | rfl | rfl <;> rfl
 have nt : ∀ x y z : Int,x ∈ [a,b,c,d,e] → y ∈ [a,b,c,d,e] → z ∈ [a,b,c,d,e] → x ≠ y → x ≠ z → y ≠ z → ¬ p ∣ trip (pt p x) (pt p y) (pt p z):=fun x y z hx hy hz h1 h2 h3 hd=>by
  have:=arc_any hp h hx hy hz h1 h2 h3
  rw [(str_trip hp).2 hd] at this
  cases this
 intro lam hl
 have main : ∀ m x y z w : Nat,m < 5 → x < 5 → y < 5 → z < 5 → w < 5 → (∀ i,i < 5 → i ≠ m → i = x ∨ i = y ∨ i = z ∨ i = w) → m ≠ x → m ≠ y → m ≠ z → m ≠ w → x ≠ y → z ≠ w → p ∣ lam m:=by
  intro m x y z w hm hx hy hz hw hall n1 n2 n3 n4 n5 n6
  have hne : ∀ i j : Nat,i < 5 → j < 5 → i ≠ j → [a,b,c,d,e].getD i 0 ≠ [a,b,c,d,e].getD j 0:=fun i j hi hj hij=>by
   rcases lt5 hi with rfl | rfl | rfl | rfl | rfl <;> rcases lt5 hj with rfl | rfl | rfl | rfl | rfl <;> simp <;> omega
  have hmm : ∀ i : Nat,i < 5 → [a,b,c,d,e].getD i 0 ∈ [a,b,c,d,e]:=fun i hi=>by
   rcases lt5 hi with rfl | rfl | rfl | rfl | rfl <;> simp
  have:=ind_one (q:=qC (pt p ([a,b,c,d,e].getD x 0)) (pt p ([a,b,c,d,e].getD y 0)) (pt p ([a,b,c,d,e].getD z 0)) (pt p ([a,b,c,d,e].getD w 0))) hl hm (fun i hi hne'=>by
   rw [ev _ i hi,evQ_lines]
   rcases hall i hi hne' with rfl | rfl | rfl | rfl
   ·rw [trip_1];simp
   ·rw [trip_2];simp
   ·rw [trip_1];simp
   ·rw [trip_2];simp)
  rw [ev _ m hm,evQ_lines] at this
  refine cancel hp (nd_mul hp (nt _ _ _ (hmm x hx) (hmm y hy) (hmm m hm) (hne x y hx hy n5) (hne x m hx hm (Ne.symm n1)) (hne y m hy hm (Ne.symm n2))) (nt _ _ _ (hmm z hz) (hmm w hw) (hmm m hm) (hne z w hz hw n6) (hne z m hz hm (Ne.symm n3)) (hne w m hw hm (Ne.symm n4)))) this
 intro i hi
 rcases lt5 hi with rfl | rfl | rfl | rfl | rfl
 ·exact main 0 1 2 3 4 (by omega) (by omega) (by omega) (by omega) (by omega) (fun i _ _=>by omega) (by omega) (by omega) (by omega) (by omega) (by omega) (by omega)
 ·exact main 1 0 2 3 4 (by omega) (by omega) (by omega) (by omega) (by omega) (fun i _ _=>by omega) (by omega) (by omega) (by omega) (by omega) (by omega) (by omega)
 ·exact main 2 0 1 3 4 (by omega) (by omega) (by omega) (by omega) (by omega) (fun i _ _=>by omega) (by omega) (by omega) (by omega) (by omega) (by omega) (by omega)
 ·exact main 3 0 1 2 4 (by omega) (by omega) (by omega) (by omega) (by omega) (fun i _ _=>by omega) (by omega) (by omega) (by omega) (by omega) (by omega) (by omega)
 ·exact main 4 0 1 2 3 (by omega) (by omega) (by omega) (by omega) (by omega) (fun i _ _=>by omega) (by omega) (by omega) (by omega) (by omega) (by omega) (by omega)
end Go.Arcs
namespace Go.Arcs
open Go Go.Ab Go.Proofs
def Z6 : List Int:=[0,0,0,0,0,0]
end Go.Arcs
namespace Go.Arcs
open Go Go.Ab Go.Proofs
theorem whileO_up {S X : Type} {step : S → Option (Lp S X)} (st : Nat → S) (n:Nat) (x : X) (hgo : ∀ i,i < n → step (st i) = some (.go (st (i + 1)))) (hout : step (st n) = some (.out x)) : whileO step (st 0) = some x:=by
  have key : ∀ c i,i + c = n → whileO step (st i) = some x:=by
    intro c
    induction c with
    | zero => intro i hi; obtain rfl : i = n := by omega
              exact whileO_out hout
    | succ c ih=>intro i hi;exact (whileO_go (hgo i (by omega))).trans (ih (i + 1) (by omega))
  exact key n 0 (by omega)
end Go.Arcs
namespace Go.Arcs
open Go Go.Ab Go.Proofs
theorem pow_B {x : TripD} (h : inR 7 x) : ∀ y ∈ l6 (powF x),0 ≤ y ∧ y ≤ 36:=by
 obtain ⟨x,y,z,⟨⟩⟩:=x
 obtain ⟨hx,hy,hz⟩:=h
 simp only at hx hy hz
 have b1:=mulB7 hx hx
 have b2:=mulB7 hy hy
 have b3:=mulB7 hz hz
 have b4:=mulB7 hx hy
 have b5:=mulB7 hx hz
 have b6:=mulB7 hy hz
 intro w hw
 simp [l6,powF] at hw
 rcases hw with rfl | rfl | rfl | rfl | rfl | rfl <;> assumption
theorem rows_B {p : Int} (hp : isP p) {l : List Int} (hl : l.all (inPt p) = true) (h5 : l.length = 5) : rowsB (rowsF p l):=by
 refine ⟨by simp [rowsF,h5],fun r hr=>?_⟩
 obtain ⟨x,hx,rfl⟩:=List.mem_map.1 hr
 exact ⟨rfl,pow_B (inR_7' hp (pt_in hp (List.all_eq_true.1 hl x hx)))⟩
set_option maxHeartbeats 2000000 in
theorem goal56 : con56.goal Try.prog (spS [con106] [con78,con104,con105]) g56_sh [900000,49] lm30:=by
 have e : (∀ (p:Int) (l:List Int),small l → g56 p l = some (thrX p l)) = con56.goal Try.prog (spS [con106] [con78,con104,con105]) g56_sh [900000,49] lm30:=by kernel_rfl
 rw [← e]
 intro p l hs
 unfold g56 g56_c0 thrX
 rw [gd_pos hs]
 by_cases hok : okSet p l = true
 ·rw [setF_ok hok]
  obtain ⟨hpb,hall,hris⟩:=okSet_all hok
  obtain ⟨h1,h2,hp⟩:=set_pl hok
  have hlen:=pts_len p (isP_mem hp)
  have hp1 : (planeF p).1 = p:=rfl
  have hpts : (planeF p).2.1 = ptsC p:=pl_pts h1
  by_cases h5 : l.length = 5
  ·have h5' : ieq (l.length:Int) 5 = true:=ieq_iff.2 (by omega)
   rw [if_pos ⟨hok,h5⟩]
   simp only [h5',Bool.not_true,cond_false,Option.isSome_some,Option.getD_some,gd_true,hp1,hpts]
   rw [gd_pos h1,gd_pos h2]
   cases ha : arcF p l with
   | false=>simp [gd_true,zero6]
   | true =>
    simp only [Bool.not_true,cond_false,if_pos]
    have hin : ∀ x ∈ l,inPt p x = true:=fun x hx=>List.all_eq_true.1 hall x hx
    have hI:=arc_ind hp h5 hris ha
    have hB:=rows_B hp hall h5
    rw [gd_pos (by simp),gd_pos (by simp),gd_pos (by simp)]
    refine whileO_up (fun (i:Nat)=>(((i:Int),Z6,rowsF p (l.take i),()) : Int × List Int × List (List Int) × Unit)) l.length _ (fun i hi=>?_) ?_
    ·have hlt:=ilt_iff.2 (show (i:Int) < (l.length:Int) by omega)
     have hx : l.getD i 0 = l[i]:=by rw [List.getD_eq_getElem?_getD,List.getElem?_eq_getElem hi];rfl
     have hi1:=hin _ (List.getElem_mem hi)
     have hi2:=inPt_iff.1 hi1
     have h7:=inR_7' hp (pt_in hp hi1)
     have ht : rowsF p (l.take (i + 1)) = rowsF p (l.take i) ++ [l6 (powF (pt p l[i]))]:=by unfold rowsF;rw [List.take_succ_eq_append_getElem hi,List.map_append];rfl
     have hpt : List.getD (ptsC p) (l[i]).toNat ((0,0,0,()) : TripD) = pt p l[i]:=rfl
     have hrl : (rowsF p (l.take i)).length ≤ 60:=by simp [rowsF];omega
     simp only [hlt,cond_true,Int.toNat_natCast,hx,hpt,ht]
     rw [gd_pos ⟨by omega,by omega⟩,gd_pos ⟨hi2.1,by omega⟩]
     refine (gd_pos h7).trans ?_
     rw [gd_pos (Nat.le_refl _),gd_pos (Nat.le_refl _),gd_pos (by omega),List.take_length,gd_pos (by simp),wr_id (by omega)]
     rfl
    ·have hf : ilt (l.length:Int) (l.length:Int) = false:=ilt_false.2 (Int.le_refl _)
     simp only [hf,cond_false,List.take_length]
     rw [gd_pos h1,gd_pos hB]
     refine (gd_pos hI).trans ((gd_pos (Nat.le_refl 6)).trans ((gd_pos (Nat.le_refl 6)).trans ?_))
     rfl
  ·have h5' : ieq (l.length:Int) 5 = false:=ieq_false.2 (by omega)
   rw [if_neg (fun h=>h5 h.2)]
   simp [h5',gd_true,zero6]
 ·have:=setF_no hok
  rw [if_neg (fun h=>hok h.1)]
  simp [this,gd_true,zero6]
end Go.Arcs
namespace Go.Arcs
open Go Go.Ab Go.Proofs
abbrev D2:=List (List Int) × Option PlaneD × List Int × List Int × Int × Unit
abbrev D5:=Int × Int × List (List Int) × Option PlaneD × List Int × List Int × Int × Unit
def rowN (r:List Int) (g : Nat → Int) (n:Nat) : List Int:=(List.range 6).map fun j=>if j < n then g j else r.getD j 0
theorem rowN_len {r : List Int} {g : Nat → Int} {n : Nat} : (rowN r g n).length = 6:=by simp [rowN]
theorem rowN_get {r : List Int} {g : Nat → Int} {n j : Nat} (hj : j < 6) : (rowN r g n).getD j 0 = if j < n then g j else r.getD j 0:=by
 unfold rowN
 rw [List.getD_eq_getElem?_getD,List.getElem?_map,List.getElem?_range hj];rfl
theorem rowN_0 {r : List Int} {g : Nat → Int} (h : r.length = 6) : rowN r g 0 = r:=by
 refine List.ext_getElem (by rw [rowN_len,h]) fun j h1 h2=>?_
 have:=rowN_get (r:=r) (g:=g) (n:=0) (j:=j) (by omega)
 rw [if_neg (by omega),List.getD_eq_getElem?_getD,List.getD_eq_getElem?_getD,List.getElem?_eq_getElem h1,List.getElem?_eq_getElem h2] at this
 exact this
theorem rowN_set {r : List Int} {g : Nat → Int} {n : Nat} (hn : n < 6) : (rowN r g n).set n (g n) = rowN r g (n + 1):=by
 refine List.ext_getElem (by simp [rowN_len]) fun j h1 h2=>?_
 rw [rowN_len] at h2
 rw [List.getElem_set]
 have e1:=rowN_get (r:=r) (g:=g) (n:=n + 1) (j:=j) h2
 rw [List.getD_eq_getElem?_getD,List.getElem?_eq_getElem (by rw [rowN_len];exact h2)] at e1
 have e2:=rowN_get (r:=r) (g:=g) (n:=n) (j:=j) h2
 rw [List.getD_eq_getElem?_getD,List.getElem?_eq_getElem (by rw [rowN_len];exact h2)] at e2
 simp only [Option.getD_some] at e1 e2
 by_cases h : n = j
 ·subst h
  rw [if_pos rfl,e1,if_pos (by omega)]
 ·rw [if_neg h,e1,e2]
  by_cases h' : j < n
  ·rw [if_pos h',if_pos (by omega)]
  ·rw [if_neg h',if_neg (by omega)]
theorem set_get {R : List (List Int)} {i : Nat} (h : i < R.length) {x : List Int} : (R.set i x).getD i [] = x:=by
 rw [List.getD_eq_getElem?_getD,List.getElem?_set_self h];rfl
theorem set_ne {R : List (List Int)} {i k : Nat} (h : i ≠ k) {x : List Int} : (R.set i x).getD k [] = R.getD k []:=by
 rw [List.getD_eq_getElem?_getD,List.getElem?_set_ne h,List.getD_eq_getElem?_getD]
theorem set_self {R : List (List Int)} {i : Nat} (h : i < R.length) : R.set i (R.getD i []) = R:=by
 refine List.ext_getElem (by simp) fun j h1 h2=>?_
 rw [List.getElem_set]
 by_cases e : i = j
 ·subst e;rw [if_pos rfl,List.getD_eq_getElem?_getD,List.getElem?_eq_getElem h];rfl
 ·rw [if_neg e]
noncomputable def nrG (p u:Int) (r:List Int) : Nat → Int:=fun j=>modF p (wr .i64 (r.getD j 0 * u))
theorem loop11 {d2 : D2} {k : PlaneD} (hk : k.1 ≠ 0) {R : List (List Int)} (h5 : R.length = 5) (h6 : ∀ r ∈ R,r.length = 6) (ha : d2.2.2.2.1.length < 5) {o L : List Int} {c : Int} {x : _}
  (hx : g106_l11 d2 (5,6,R.set d2.2.2.2.1.length (rowN (R.getD d2.2.2.2.1.length []) (nrG k.1 (g106_c2 d2) (R.getD d2.2.2.2.1.length [])) 6),some k,o,L,c,()) = some (.out x)) :
  whileO (g106_l11 d2) (5,0,R,some k,o,L,c,()) = some x:=by
 have hr6 : (R.getD d2.2.2.2.1.length []).length = 6:=by
  rw [List.getD_eq_getElem?_getD,List.getElem?_eq_getElem (by omega)];exact h6 _ (List.getElem_mem (by omega))
 have h0 : R = R.set d2.2.2.2.1.length (rowN (R.getD d2.2.2.2.1.length []) (nrG k.1 (g106_c2 d2) (R.getD d2.2.2.2.1.length [])) 0):=by rw [rowN_0 hr6,set_self (by omega)]
 refine Eq.trans (congrArg (fun X=>whileO (g106_l11 d2) (5,0,X,some k,o,L,c,())) h0) ?_
 refine whileO_up (fun (j:Nat)=>((5,(j:Int),R.set d2.2.2.2.1.length (rowN (R.getD d2.2.2.2.1.length []) (nrG k.1 (g106_c2 d2) (R.getD d2.2.2.2.1.length [])) j),some k,o,L,c,()) : D5)) 6 _ (fun j hj=>?_) hx
 have hlt:=ilt_iff.2 (show (j:Int) < 6 by omega)
 have t5 : Int.toNat 5 = 5:=rfl
 have hw : wr .i64 ((j:Int) + 1) = ((j + 1:Nat):Int):=wr_id (by omega)
 unfold g106_l11
 simp only [hlt,cond_true,Int.toNat_natCast,Nat.zero_add,Option.isSome_some,Option.getD_some,gd_true,set_get (show d2.2.2.2.1.length < R.length by omega),List.length_set,rowN_len,h5,hw]
 have hc4 : g106_c4 d2 (5,(j:Int),R.set d2.2.2.2.1.length (rowN (R.getD d2.2.2.2.1.length []) (nrG k.1 (g106_c2 d2) (R.getD d2.2.2.2.1.length [])) j),some k,o,L,c,()) = nrG k.1 (g106_c2 d2) (R.getD d2.2.2.2.1.length []) j:=by
  unfold g106_c4 g106_c3 nrG
  simp only [Nat.zero_add,set_get (show d2.2.2.2.1.length < R.length by omega),Int.toNat_natCast,rowN_get hj,Nat.lt_irrefl,if_false,Option.getD_some]
 rw [hc4,rowN_set hj,List.set_set]
 repeat first | rw [gd_pos hk] | rw [gd_pos (by omega)] | rw [gd_pos ⟨by omega,by omega⟩]
 rfl
end Go.Arcs
namespace Go.Arcs
open Go Go.Ab Go.Proofs
noncomputable def elG (p f:Int) (r ra:List Int) : Nat → Int:=fun j=>modF p (wr .i64 (r.getD j 0 - wr .i64 (f * ra.getD j 0)))
theorem loop9 {d2 : D2} {k : PlaneD} (hk : k.1 ≠ 0) {R : List (List Int)} (h5 : R.length = 5) (h6 : ∀ r ∈ R,r.length = 6) (ha : d2.2.2.2.1.length < 5) {i : Nat} (hi : i < 5) (hia : i ≠ d2.2.2.2.1.length) {o L : List Int} {c : Int} :
  whileO (g106_l9 d2 (5,(i:Int),R,some k,o,L,c,())) (5,0,R,some k,o,L,c,()) = some (.go ((5,((i + 1:Nat):Int),R.set i (rowN (R.getD i []) (elG k.1 ((R.getD i []).getD c.toNat 0) (R.getD i []) (R.getD d2.2.2.2.1.length [])) 6),some k,o,L,c,()) : D5)):=by
 have hr6 : (R.getD i []).length = 6:=by
  rw [List.getD_eq_getElem?_getD,List.getElem?_eq_getElem (by omega)];exact h6 _ (List.getElem_mem (by omega))
 have hra : (R.getD d2.2.2.2.1.length []).length = 6:=by
  rw [List.getD_eq_getElem?_getD,List.getElem?_eq_getElem (by omega)];exact h6 _ (List.getElem_mem (by omega))
 have h0 : R = R.set i (rowN (R.getD i []) (elG k.1 ((R.getD i []).getD c.toNat 0) (R.getD i []) (R.getD d2.2.2.2.1.length [])) 0):=by rw [rowN_0 hr6,set_self (by omega)]
 refine Eq.trans (congrArg (fun X=>whileO (g106_l9 d2 (5,(i:Int),R,some k,o,L,c,())) (5,0,X,some k,o,L,c,())) h0) ?_
 refine whileO_up (fun (j:Nat)=>((5,(j:Int),R.set i (rowN (R.getD i []) (elG k.1 ((R.getD i []).getD c.toNat 0) (R.getD i []) (R.getD d2.2.2.2.1.length [])) j),some k,o,L,c,()) : D5)) 6 _ (fun j hj=>?_) ?_
 ·have hlt:=ilt_iff.2 (show (j:Int) < 6 by omega)
  have t5 : Int.toNat 5 = 5:=rfl
  have hw : wr .i64 ((j:Int) + 1) = ((j + 1:Nat):Int):=wr_id (by omega)
  unfold g106_l9
  simp only [hlt,cond_true,Int.toNat_natCast,Nat.zero_add,Option.isSome_some,Option.getD_some,gd_true,set_get (show i < R.length by omega),set_ne hia,List.length_set,rowN_len,h5,hw,hra]
  have hc8 : g106_c8 d2 (5,(i:Int),R,some k,o,L,c,()) (5,(j:Int),R.set i (rowN (R.getD i []) (elG k.1 ((R.getD i []).getD c.toNat 0) (R.getD i []) (R.getD d2.2.2.2.1.length [])) j),some k,o,L,c,()) = elG k.1 ((R.getD i []).getD c.toNat 0) (R.getD i []) (R.getD d2.2.2.2.1.length []) j:=by
   unfold g106_c8 g106_c7 g106_c6 g106_c5 elG
   simp only [Nat.zero_add,set_get (show i < R.length by omega),set_ne hia,Int.toNat_natCast,rowN_get hj,Nat.lt_irrefl,if_false,Option.getD_some]
  rw [hc8,rowN_set hj,List.set_set]
  repeat first | rw [gd_pos hk] | rw [gd_pos (by omega)] | rw [gd_pos ⟨by omega,by omega⟩]
  rfl
 ·have hf : ilt ((6:Nat):Int) 6 = false:=ilt_false.2 (Int.le_refl _)
  have hw : wr .i64 ((i:Int) + 1) = ((i + 1:Nat):Int):=wr_id (by omega)
  unfold g106_l9
  simp only [hf,cond_false,gd_true,hw]
  rfl
noncomputable def elR (p:Int) (R:List (List Int)) (a c i:Nat) : List (List Int):=(List.range 5).map fun m=>if m < i ∧ m ≠ a then rowN (R.getD m []) (elG p ((R.getD m []).getD c 0) (R.getD m []) (R.getD a [])) 6 else R.getD m []
theorem elR_len {p : Int} {R : List (List Int)} {a c i : Nat} : (elR p R a c i).length = 5:=by simp [elR]
theorem elR_get {p : Int} {R : List (List Int)} {a c i m : Nat} (hm : m < 5) : (elR p R a c i).getD m [] = if m < i ∧ m ≠ a then rowN (R.getD m []) (elG p ((R.getD m []).getD c 0) (R.getD m []) (R.getD a [])) 6 else R.getD m []:=by
 unfold elR
 rw [List.getD_eq_getElem?_getD,List.getElem?_map,List.getElem?_range hm];rfl
theorem ext5 {A B : List (List Int)} (ha : A.length = 5) (hb : B.length = 5) (h : ∀ m,m < 5 → A.getD m [] = B.getD m []) : A = B:=by
 refine List.ext_getElem (by rw [ha,hb]) fun j h1 h2=>?_
 have:=h j (by omega)
 rw [List.getD_eq_getElem?_getD,List.getD_eq_getElem?_getD,List.getElem?_eq_getElem h1,List.getElem?_eq_getElem h2] at this
 exact this
theorem elR_0 {p : Int} {R : List (List Int)} {a c : Nat} (h : R.length = 5) : elR p R a c 0 = R:=ext5 elR_len h fun m hm=>by rw [elR_get hm,if_neg (by omega)]
theorem elR_a {p : Int} {R : List (List Int)} {a c : Nat} : elR p R a c (a + 1) = elR p R a c a:=ext5 elR_len elR_len fun m hm=>by
 rw [elR_get hm,elR_get hm]
 by_cases h : m < a
 ·rw [if_pos (by omega),if_pos (by omega)]
 ·rw [if_neg (by omega),if_neg (by omega)]
theorem elR_set {p : Int} {R : List (List Int)} {a c i : Nat} (hi : i < 5) (hia : i ≠ a) : (elR p R a c i).set i (rowN (R.getD i []) (elG p ((R.getD i []).getD c 0) (R.getD i []) (R.getD a [])) 6) = elR p R a c (i + 1):=ext5 (by rw [List.length_set,elR_len]) elR_len fun m hm=>by
 rw [elR_get hm]
 by_cases h : i = m
 ·subst h
  rw [set_get (by rw [elR_len];exact hi),if_pos ⟨by omega,hia⟩]
 ·rw [set_ne h,elR_get hm]
  by_cases h' : m < i ∧ m ≠ a
  ·rw [if_pos h',if_pos ⟨by omega,h'.2⟩]
  ·rw [if_neg h',if_neg (by omega)]
theorem elR_row {p : Int} {R : List (List Int)} {a c i : Nat} (h5 : R.length = 5) (h6 : ∀ r ∈ R,r.length = 6) : ∀ r ∈ elR p R a c i,r.length = 6:=by
 intro r hr
 obtain ⟨m,hm,rfl⟩:=List.mem_map.1 hr
 have hm:=List.mem_range.1 hm
 split
 ·exact rowN_len
 ·rw [List.getD_eq_getElem?_getD,List.getElem?_eq_getElem (by omega)];exact h6 _ (List.getElem_mem (by omega))
theorem loop10 {d2 : D2} {d3 : D5} (h3 : d3.1 = 5) {k : PlaneD} (hk : k.1 ≠ 0) {R : List (List Int)} (h5 : R.length = 5) (h6 : ∀ r ∈ R,r.length = 6) (ha : d2.2.2.2.1.length < 5) {o L : List Int} (hL : L.length ≤ 5) {c : Nat} (hc : c < 6) :
  whileO (g106_l10 d2 d3) (5,0,R,some k,o,L,(c:Int),()) = some (.out (.go ((elR k.1 R d2.2.2.2.1.length c 5,some k,o,L ++ [(c:Int)],((c + 1:Nat):Int),()) : D2))):=by
 refine Eq.trans (congrArg (fun X=>whileO (g106_l10 d2 d3) (5,0,X,some k,o,L,(c:Int),())) (elR_0 (p:=k.1) (a:=d2.2.2.2.1.length) (c:=c) h5).symm) ?_
 refine whileO_up (fun (i:Nat)=>((5,(i:Int),elR k.1 R d2.2.2.2.1.length c i,some k,o,L,(c:Int),()) : D5)) 5 _ (fun i hi=>?_) ?_
 ·have t5 : Int.toNat 5 = 5:=rfl
  have hlt : ilt (i:Int) (((Int.toNat d3.1:Nat)):Int) = true:=by rw [h3];exact ilt_iff.2 (show (i:Int) < 5 by omega)
  have hw : wr .i64 ((i:Int) + 1) = ((i + 1:Nat):Int):=wr_id (by omega)
  have hlen : ((elR k.1 R d2.2.2.2.1.length c i).getD i []).length = 6:=by
   rw [List.getD_eq_getElem?_getD,List.getElem?_eq_getElem (by rw [elR_len];exact hi)];exact elR_row h5 h6 _ (List.getElem_mem _)
  have er : (elR k.1 R d2.2.2.2.1.length c i).getD i [] = R.getD i []:=by rw [elR_get hi,if_neg (by omega)]
  have ea : (elR k.1 R d2.2.2.2.1.length c i).getD d2.2.2.2.1.length [] = R.getD d2.2.2.2.1.length []:=by rw [elR_get ha,if_neg (by omega)]
  unfold g106_l10
  simp only [hlt,cond_true,Int.toNat_natCast,Nat.zero_add,gd_true,elR_len,hlen,hw]
  rw [gd_pos ⟨by omega,by omega⟩,gd_pos hi,gd_pos ⟨by omega,by omega⟩,gd_pos hc]
  by_cases hia : i = d2.2.2.2.1.length
  ·rw [show ieq (i:Int) (d2.2.2.2.1.length:Int) = true from ieq_iff.2 (by omega),Bool.not_true,cond_false]
   have:=elR_a (p:=k.1) (R:=R) (a:=d2.2.2.2.1.length) (c:=c)
   rw [← hia] at this
   rw [← hia,this]
   rfl
  ·rw [show ieq (i:Int) (d2.2.2.2.1.length:Int) = false from ieq_false.2 (by omega),Bool.not_false,cond_true]
   have:=loop9 (d2:=d2) hk elR_len (elR_row (p:=k.1) (a:=d2.2.2.2.1.length) (c:=c) (i:=i) h5 h6) ha hi hia (o:=o) (L:=L) (c:=(c:Int))
   rw [er,ea,Int.toNat_natCast,elR_set hi hia] at this
   exact this
 ·have hf : ilt ((5:Nat):Int) (((Int.toNat d3.1:Nat)):Int) = false:=by rw [h3];exact ilt_false.2 (Int.le_refl _)
  have hw : wr .i64 ((c:Int) + 1) = ((c + 1:Nat):Int):=wr_id (by omega)
  unfold g106_l10
  simp only [hf,cond_false,gd_true,hw,List.take_length]
  rw [gd_pos (Nat.le_refl _),gd_pos (by omega),gd_pos (by rw [elR_len];rfl),gd_pos (by simp)]
end Go.Arcs
namespace Go.Arcs
open Go Go.Ab Go.Proofs
structure KI (p:Int) (R0 R : Mx) (le : List Nat) (c:Nat) : Prop where
 sol : ∀ v,Sol p R v ↔ Sol p R0 v
 ind : Ind p R
 l5 : le.length ≤ 5
 c6 : c ≤ 6
 lt : ∀ x ∈ le,x < c
 ris : le.Pairwise (· < ·)
 unit : ∀ i m,i < le.length → m < 5 → p ∣ R m (le.getD i 0) - if m = i then 1 else 0
 zero : ∀ j m,j < c → j ∉ le → le.length ≤ m → m < 5 → p ∣ R m j
theorem getD_mem {le : List Nat} {i : Nat} (h : i < le.length) : le.getD i 0 ∈ le:=by
 rw [List.getD_eq_getElem?_getD,List.getElem?_eq_getElem h];exact List.getElem_mem h
theorem KI.none {p : Int} {R0 R : Mx} {le : List Nat} {c : Nat} (h : KI p R0 R le c) (hc : c < 6) (hz : ∀ m,le.length ≤ m → m < 5 → p ∣ R m c) : KI p R0 R le (c + 1) where
 sol:=h.sol
 ind:=h.ind
 l5:=h.l5
 c6:=by omega
 lt:=fun x hx=>Nat.lt_succ_of_lt (h.lt x hx)
 ris:=h.ris
 unit:=h.unit
 zero:=fun j m hj hn hm h5=>by
  by_cases e : j = c
  ·rw [e];exact hz m hm h5
  ·exact h.zero j m (by omega) hn hm h5
theorem KI.swap {p : Int} {R0 R : Mx} {le : List Nat} {c : Nat} (h : KI p R0 R le c) {b : Nat} (ha : le.length ≤ b) (hb : b < 5) : KI p R0 (swM R le.length b) le c where
 sol:=fun v=>(Sol_sw (by omega) hb).trans (h.sol v)
 ind:=Ind_sw (by omega) hb h.ind
 l5:=h.l5
 c6:=h.c6
 lt:=h.lt
 ris:=h.ris
 unit:=fun i m hi hm=>by
  have h1:=h.unit i (sw le.length b m) hi (sw_lt (by omega) hb hm)
  have e : (if sw le.length b m = i then (1:Int) else 0) = if m = i then 1 else 0:=by
   unfold sw
   by_cases e1 : m = le.length
   ·rw [if_pos e1,if_neg (by omega),if_neg (by omega)]
   ·rw [if_neg e1]
    by_cases e2 : m = b
    ·rw [if_pos e2,if_neg (by omega),if_neg (by omega)]
    ·rw [if_neg e2]
  rw [e] at h1
  exact h1
 zero:=fun j m hj hn hm h5=>h.zero j _ hj hn (by unfold sw;split <;> (try split) <;> omega) (sw_lt (by omega) hb h5)
theorem KI.step {p : Int} (hp : 2 ≤ p) {R0 R R' : Mx} {le : List Nat} {c : Nat} (h : KI p R0 R le c) (hc : c < 6) (hl : le.length < 5) {u : Int} (hu : p ∣ u * R le.length c - 1) (hs : Step p R R' le.length u (fun i=>R i c * u)) : KI p R0 R' (le ++ [c]) (c + 1) where
 sol:=fun v=>(Sol_step hs).trans (h.sol v)
 ind:=Ind_step hs h.ind
 l5:=by rw [List.length_append];simp;omega
 c6:=by omega
 lt:=fun x hx=>by
  rcases List.mem_append.1 hx with hx | hx
  ·exact Nat.lt_succ_of_lt (h.lt x hx)
  ·rw [List.mem_singleton.1 hx];omega
 ris:=List.pairwise_append.2 ⟨h.ris,List.pairwise_singleton ..,fun x hx y hy=>by rw [List.mem_singleton.1 hy];exact h.lt x hx⟩
 unit:=fun i m hi hm=>by
  rw [List.length_append,List.length_singleton] at hi
  by_cases e : i = le.length
  ·have ec : (le ++ [c]).getD i 0 = c:=by rw [e,List.getD_eq_getElem?_getD,List.getElem?_append_right (Nat.le_refl _)];simp
   rw [ec,e]
   obtain ⟨w,hw⟩:=hu
   by_cases em : m = le.length
   ·rw [if_pos em,em]
    obtain ⟨a,ha⟩:=hs.at_ c hc
    exact ⟨a + w,by grind⟩
   ·rw [if_neg em]
    obtain ⟨a,ha⟩:=hs.ne m c hm em hc
    exact ⟨a - R m c * w,by grind⟩
  ·have ec : (le ++ [c]).getD i 0 = le.getD i 0:=by rw [List.getD_eq_getElem?_getD,List.getElem?_append_left (by omega),← List.getD_eq_getElem?_getD]
   rw [ec]
   have hi' : i < le.length:=by omega
   have hj : le.getD i 0 < 6:=by have:=h.lt _ (getD_mem hi');omega
   obtain ⟨z,hz⟩:=h.unit i le.length hi' hl
   rw [if_neg (fun e'=>e e'.symm)] at hz
   obtain ⟨q,hq⟩:=h.unit i m hi' hm
   by_cases em : m = le.length
   ·rw [if_neg (by omega),em]
    obtain ⟨a,ha⟩:=hs.at_ _ hj
    exact ⟨a + u * z,by grind⟩
   ·obtain ⟨a,ha⟩:=hs.ne m _ hm em hj
    exact ⟨a + q - R m c * u * z,by grind⟩
 zero:=fun j m hj hn hm h5=>by
  rw [List.length_append,List.length_singleton] at hm
  have hjc : j ≠ c:=fun e=>hn (by rw [e];simp)
  have hn' : j ∉ le:=fun e=>hn (List.mem_append_left _ e)
  obtain ⟨z,hz⟩:=h.zero j le.length (by omega) hn' (Nat.le_refl _) hl
  obtain ⟨q,hq⟩:=h.zero j m (by omega) hn' (by omega) h5
  obtain ⟨a,ha⟩:=hs.ne m j h5 (by omega) (by omega)
  exact ⟨a + q - R m c * u * z,by grind⟩
theorem KI.five {p : Int} (hp : 2 ≤ p) {R0 R : Mx} {le : List Nat} (h : KI p R0 R le 6) : le.length = 5:=by
 refine Classical.byContradiction fun hne=>?_
 have hl : le.length < 5:=by have:=h.l5;omega
 obtain ⟨j,hj,hd⟩:=ind_row h.ind hp hl
 by_cases hm : j ∈ le
 ·obtain ⟨i,hi,rfl⟩:=List.getElem_of_mem hm
  have:=h.unit i le.length hi hl
  rw [if_neg (by omega),Int.sub_zero,List.getD_eq_getElem?_getD,List.getElem?_eq_getElem hi] at this
  exact hd this
 ·exact hd (h.zero j le.length hj hm (Nat.le_refl _) hl)
end Go.Arcs
namespace Go.Arcs
open Go Go.Ab Go.Proofs
theorem emod_sub {p x : Int} : p ∣ x % p - x:=⟨-(x / p),by rw [Int.emod_def];grind⟩
theorem rB_row {R : List (List Int)} (h : rowsB R) {i : Nat} (hi : i < 5) : (R.getD i []).length = 6 ∧ ∀ j,j < 6 → 0 ≤ (R.getD i []).getD j 0 ∧ (R.getD i []).getD j 0 ≤ 36:=by
 have hm : R.getD i [] ∈ R:=by rw [List.getD_eq_getElem?_getD,List.getElem?_eq_getElem (by rw [h.1];exact hi)];exact List.getElem_mem _
 obtain ⟨h1,h2⟩:=h.2 _ hm
 refine ⟨h1,fun j hj=>h2 _ ?_⟩
 rw [List.getD_eq_getElem?_getD (l:=R.getD i []),List.getElem?_eq_getElem (by rw [h1];exact hj)];exact List.getElem_mem _
theorem rB_mk {R : List (List Int)} (h5 : R.length = 5) (h : ∀ i,i < 5 → (R.getD i []).length = 6 ∧ ∀ j,j < 6 → 0 ≤ (R.getD i []).getD j 0 ∧ (R.getD i []).getD j 0 ≤ 36) : rowsB R:=by
 refine ⟨h5,fun r hr=>?_⟩
 obtain ⟨i,hi,rfl⟩:=List.getElem_of_mem hr
 obtain ⟨h1,h2⟩:=h i (by omega)
 rw [List.getD_eq_getElem?_getD,List.getElem?_eq_getElem hi] at h1 h2
 refine ⟨h1,fun x hx=>?_⟩
 obtain ⟨j,hj,rfl⟩:=List.getElem_of_mem hx
 have:=h2 j (by have : R[i].length = 6:=h1;omega)
 simp only [Option.getD_some] at this
 rw [List.getD_eq_getElem?_getD,List.getElem?_eq_getElem hj] at this
 exact this
theorem swapR_get {R : List (List Int)} {a b i : Nat} (ha : a < R.length) (hb : b < R.length) (hi : i < R.length) : (swapR R a b).getD i [] = R.getD (sw a b i) []:=by
 unfold swapR sw
 by_cases e2 : i = b
 ·subst e2
  rw [set_get (by rw [List.length_set];exact hb)]
  by_cases e1 : i = a
  ·subst e1;rw [if_pos rfl]
  ·rw [if_neg e1,if_pos rfl]
 ·rw [set_ne (fun h=>e2 h.symm)]
  by_cases e1 : i = a
  ·subst e1;rw [set_get ha,if_pos rfl]
  ·rw [set_ne (fun h=>e1 h.symm),if_neg e1,if_neg e2]
theorem swap_B {R : List (List Int)} (h : rowsB R) {a b : Nat} (ha : a < 5) (hb : b < 5) : rowsB (swapR R a b) :=
 rB_mk (by unfold swapR;rw [List.length_set,List.length_set,h.1]) fun i hi=>by
  rw [swapR_get (by rw [h.1];exact ha) (by rw [h.1];exact hb) (by rw [h.1];exact hi)]
  exact rB_row h (sw_lt ha hb hi)
noncomputable def R2F (p u:Int) (R:List (List Int)) (a:Nat) : List (List Int):=R.set a (rowN (R.getD a []) (nrG p u (R.getD a [])) 6)
noncomputable def R3F (p u:Int) (R:List (List Int)) (a c:Nat) : List (List Int):=elR p (R2F p u R a) a c 5
theorem R2_a {p u : Int} (hp : 2 ≤ p ∧ p ≤ 7) (hu : 0 ≤ u ∧ u ≤ 6) {R : List (List Int)} (h : rowsB R) {a : Nat} (ha : a < 5) {j : Nat} (hj : j < 6) : ((R2F p u R a).getD a []).getD j 0 = ((R.getD a []).getD j 0 * u) % p:=by
 have hb:=(rB_row h ha).2 j hj
 have hm:=mul_bd (a:=(R.getD a []).getD j 0) (b:=u) (c:=36) hb (by omega)
 unfold R2F
 rw [set_get (by rw [h.1];exact ha),rowN_get hj,if_pos hj]
 unfold nrG
 rw [wr_id (by omega),modF_eq (by omega)]
theorem R2_ne {p u : Int} {R : List (List Int)} {a i : Nat} (hi : a ≠ i) : (R2F p u R a).getD i [] = R.getD i []:=by unfold R2F;rw [set_ne hi]
theorem R3_a {p u : Int} {R : List (List Int)} {a c : Nat} (ha : a < 5) : (R3F p u R a c).getD a [] = (R2F p u R a).getD a []:=by
 unfold R3F;rw [elR_get ha,if_neg (by omega)]
theorem R3_ne {p u : Int} (hp : 2 ≤ p ∧ p ≤ 7) (hu : 0 ≤ u ∧ u ≤ 6) {R : List (List Int)} (h : rowsB R) {a c i : Nat} (ha : a < 5) (hc : c < 6) (hi : i < 5) (hia : i ≠ a) {j : Nat} (hj : j < 6) :
  ((R3F p u R a c).getD i []).getD j 0 = ((R.getD i []).getD j 0 - (R.getD i []).getD c 0 * (((R.getD a []).getD j 0 * u) % p)) % p:=by
 have h1:=(rB_row h hi).2 j hj
 have h2:=(rB_row h hi).2 c hc
 have h3 : 0 ≤ ((R.getD a []).getD j 0 * u) % p:=Int.emod_nonneg _ (by omega)
 have h4 : ((R.getD a []).getD j 0 * u) % p < p:=Int.emod_lt_of_pos _ (by omega)
 have hm:=mul_bd (a:=(R.getD i []).getD c 0) (b:=((R.getD a []).getD j 0 * u) % p) (c:=36) h2 (by omega)
 unfold R3F
 rw [elR_get hi,if_pos ⟨hi,hia⟩,rowN_get hj,if_pos hj]
 unfold elG
 rw [R2_a hp hu h ha hj,R2_ne (fun e=>hia e.symm),wr_id (n:=_ * _) (by omega),wr_id (by omega),modF_eq (by omega)]
theorem R3_B {p u : Int} (hp : 2 ≤ p ∧ p ≤ 7) (hu : 0 ≤ u ∧ u ≤ 6) {R : List (List Int)} (h : rowsB R) {a c : Nat} (ha : a < 5) (hc : c < 6) : rowsB (R3F p u R a c) :=
 rB_mk elR_len fun i hi=>by
  have m : ∀ x : Int,0 ≤ x % p ∧ x % p ≤ 36:=fun x=>⟨Int.emod_nonneg x (by omega),by have:=Int.emod_lt_of_pos x (show 0 < p by omega);omega⟩
  by_cases e : i = a
  ·subst e
   rw [R3_a hi]
   refine ⟨by unfold R2F;rw [set_get (by rw [h.1];exact hi),rowN_len],fun j hj=>?_⟩
   rw [R2_a hp hu h hi hj];exact m _
  ·refine ⟨by unfold R3F;rw [elR_get hi,if_pos ⟨hi,e⟩,rowN_len],fun j hj=>?_⟩
   rw [R3_ne hp hu h ha hc hi e hj];exact m _
theorem R3_step {p u : Int} (hp : 2 ≤ p ∧ p ≤ 7) (hu : 0 ≤ u ∧ u ≤ 6) {R : List (List Int)} (h : rowsB R) {a c : Nat} (ha : a < 5) (hc : c < 6) (hun : ∃ w,p ∣ w * u - 1) : Step p (mxL R) (mxL (R3F p u R a c)) a u (fun i=>mxL R i c * u) where
 lt:=ha
 at_:=fun j hj=>by
  unfold mxL
  rw [R3_a ha,R2_a hp hu h ha hj]
  obtain ⟨q,hq⟩:=emod_sub (p:=p) (x:=(R.getD a []).getD j 0 * u)
  exact ⟨q,by grind⟩
 ne:=fun i j hi hia hj=>by
  unfold mxL
  rw [R3_ne hp hu h ha hc hi hia hj]
  obtain ⟨q,hq⟩:=emod_sub (p:=p) (x:=(R.getD a []).getD j 0 * u)
  generalize (R.getD a []).getD j 0 * u % p = y at *
  obtain ⟨q2,hq2⟩:=emod_sub (p:=p) (x:=(R.getD i []).getD j 0 - (R.getD i []).getD c 0 * y)
  exact ⟨q2 - (R.getD i []).getD c 0 * q,by grind⟩
 un:=hun
end Go.Arcs
namespace Go.Arcs
open Go Go.Ab Go.Proofs
theorem ix_cases {p c : Int} : ∀ {L : List (List Int)} {i : Int},(ixR p c L i = -1 ∧ ∀ r ∈ L,nzR p c r = false) ∨ ∃ n,n < L.length ∧ ixR p c L i = i + (n:Int) ∧ nzR p c (L.getD n []) = true
 | [],i=>.inl ⟨rfl,fun r hr=>by cases hr⟩
 | r :: L,i=>by
  cases hb : nzR p c r with
  | true=>exact .inr ⟨0,by simp,by rw [ixR,if_pos hb];simp,hb⟩
  | false =>
   have e : ixR p c (r :: L) i = ixR p c L (i + 1):=by rw [ixR,if_neg (by rw [hb];simp)]
   rcases ix_cases (p:=p) (c:=c) (L:=L) (i:=i + 1) with ⟨h1,h2⟩ | ⟨n,hn,h1,h2⟩
   ·exact .inl ⟨by rw [e,h1],fun s hs=>by rcases List.mem_cons.1 hs with rfl | hs;exact hb;exact h2 s hs⟩
   ·exact .inr ⟨n + 1,by simp;omega,by rw [e,h1];omega,by simpa using h2⟩
def leI (le : List Nat) : List Int:=le.map fun (x:Nat)=>(x:Int)
theorem leI_len {le : List Nat} : (leI le).length = le.length:=by simp [leI]
theorem leI_app {le : List Nat} {c : Nat} : leI (le ++ [c]) = leI le ++ [(c:Int)]:=by simp [leI]
theorem nz_iff {p : Int} (hp : 2 ≤ p ∧ p ≤ 7) {R : List (List Int)} {i c : Nat} : nzR p (c:Int) (R.getD i []) = true ↔ ¬ p ∣ mxL R i c:=by
 unfold nzR mxL
 rw [modF_eq (by omega),Int.toNat_natCast,Bool.not_eq_true',Bool.eq_false_iff,ne_eq,ieq_iff]
 exact ⟨fun h hd=>h (Int.emod_eq_zero_of_dvd hd),fun h hd=>h (Int.dvd_of_emod_eq_zero hd)⟩
theorem KI.col {p : Int} (hp : isP p) {R0 : Mx} {R : List (List Int)} {le : List Nat} {c : Nat} (h : KI p R0 (mxL R) le c) (hB : rowsB R) (hc : c < 6) (hl : le.length < 5) {b : Nat} (hb : le.length ≤ b ∧ b < 5) (hnz : ¬ p ∣ mxL R b c) :
  ∃ u,u = invF p (((swapR R le.length b).getD le.length []).getD c 0 % p) ∧ KI p R0 (mxL (R3F p u (swapR R le.length b) le.length c)) (le ++ [c]) (c + 1) ∧ rowsB (R3F p u (swapR R le.length b) le.length c) ∧ ((swapR R le.length b).getD le.length []).getD c 0 % p ≠ 0:=by
 have h7:=isP_bd hp
 refine ⟨_,rfl,?_⟩
 have hsw : ∀ i,i < 5 → (swapR R le.length b).getD i [] = R.getD (sw le.length b i) []:=fun i hi=>swapR_get (by rw [hB.1];exact hl) (by rw [hB.1];exact hb.2) (by rw [hB.1];exact hi)
 have hcong : ∀ i,i < 5 → ∀ j,mxL (swapR R le.length b) i j = swM (mxL R) le.length b i j:=fun i hi j=>by unfold mxL swM;rw [hsw i hi]
 have hab : ((swapR R le.length b).getD le.length []).getD c 0 = mxL R b c:=by rw [hsw _ hl];unfold sw mxL;rw [if_pos rfl]
 have hne : ((swapR R le.length b).getD le.length []).getD c 0 % p ≠ 0:=by rw [hab];exact fun e=>hnz (Int.dvd_of_emod_eq_zero e)
 have hsB:=swap_B hB hl hb.2
 have ks:=h.swap hb.1 hb.2
 have ks' : KI p R0 (mxL (swapR R le.length b)) le c:=by
  have hs5 : ∀ i,i < 5 → ∀ v : Nat → Int,(s6 fun j=>mxL (swapR R le.length b) i j * v j) = s6 fun j=>swM (mxL R) le.length b i j * v j:=fun i hi v=>by
   unfold s6;simp only [hcong i hi]
  refine ⟨fun v=>?_,?_,ks.l5,ks.c6,ks.lt,ks.ris,fun i m hi hm=>by rw [hcong m hm];exact ks.unit i m hi hm,fun j m hj hn hm h5=>by rw [hcong m h5];exact ks.zero j m hj hn hm h5⟩
  ·rw [← ks.sol v]
   exact ⟨fun hh i hi=>by rw [← hs5 i hi];exact hh i hi,fun hh i hi=>by rw [hs5 i hi];exact hh i hi⟩
  ·intro l hl2 i hi
   refine ks.ind l (fun j hj=>?_) i hi
   have:=hl2 j hj
   unfold s5 at this ⊢
   simp only [hcong 0 (by omega),hcong 1 (by omega),hcong 2 (by omega),hcong 3 (by omega),hcong 4 (by omega)] at this
   exact this
 have hrange : rngP p (((swapR R le.length b).getD le.length []).getD c 0 % p):=⟨by have:=Int.emod_nonneg (((swapR R le.length b).getD le.length []).getD c 0) (show p ≠ 0 by omega);omega,Int.emod_lt_of_pos _ (by omega)⟩
 have hiv:=inv_spec hp hrange
 have hmul : p ∣ invF p (((swapR R le.length b).getD le.length []).getD c 0 % p) * mxL (swapR R le.length b) le.length c - 1:=by
  have h1:=hiv.2.2 _ hiv.1 (Int.le_refl _)
  rw [ieq_iff.2 (show invF p _ = invF p _ from rfl),ieq_iff] at h1
  have hb6 : ((swapR R le.length b).getD le.length []).getD c 0 % p ≤ 7:=by have:=Int.emod_lt_of_pos (((swapR R le.length b).getD le.length []).getD c 0) (show 0 < p by omega);omega
  have hm:=mul_bd (a:=invF p (((swapR R le.length b).getD le.length []).getD c 0 % p)) (b:=((swapR R le.length b).getD le.length []).getD c 0 % p) (c:=7) ⟨by omega,by omega⟩ ⟨by have:=hrange.1;omega,hb6⟩
  rw [wr_id (by omega),modF_eq (by omega)] at h1
  show p ∣ invF p _ * ((swapR R le.length b).getD le.length []).getD c 0 - 1
  generalize invF p (((swapR R le.length b).getD le.length []).getD c 0 % p) = u at *
  generalize ((swapR R le.length b).getD le.length []).getD c 0 = y at *
  obtain ⟨q,hq⟩:=emod_sub (p:=p) (x:=y)
  obtain ⟨q2,hq2⟩:=emod_sub (p:=p) (x:=u * (y % p))
  rw [h1] at hq2
  exact ⟨- u * q - q2,by grind⟩
 have hu : 0 ≤ invF p (((swapR R le.length b).getD le.length []).getD c 0 % p) ∧ invF p (((swapR R le.length b).getD le.length []).getD c 0 % p) ≤ 6:=⟨by omega,hiv.2.1⟩
 refine ⟨ks'.step h7.1 hc hl hmul (R3_step h7 hu hsB hl hc ⟨mxL (swapR R le.length b) le.length c,by rw [Int.mul_comm];exact hmul⟩),R3_B h7 hu hsB hl hc,hne⟩
end Go.Arcs
namespace Go.Arcs
open Go Go.Ab Go.Proofs
theorem five5 {le : List Nat} (h : le.length = 5) : ∃ a b c d e,le = [a,b,c,d,e]:=by
 match le,h with
 | [a,b,c,d,e],_=>exact ⟨a,b,c,d,e,rfl⟩
theorem KI.red {p : Int} {R0 R : Mx} {le : List Nat} {c : Nat} (h : KI p R0 R le c) (h5 : le.length = 5) {fr : Nat} (hf : fr < 6) (hn : fr ∉ le) : Red p R (fun i=>le.getD i 0) fr:=by
 have hlt : ∀ i,i < 5 → le.getD i 0 < 6:=fun i hi=>by have:=h.lt _ (getD_mem (le:=le) (i:=i) (by omega));have:=h.c6;omega
 refine ⟨hlt,hf,fun i hi e=>hn (by have h0 : le.getD i 0 = fr:=e;rw [← h0];exact getD_mem (by omega)),?_,fun i k hi hk=>?_⟩
 ·have hr:=h.ris
  have hl:=h.lt
  have h6:=h.c6
  obtain ⟨a,b,x,d,e,rfl⟩:=five5 h5
  intro j hj hjf
  simp at hr hl hn
  have : j = a ∨ j = b ∨ j = x ∨ j = d ∨ j = e:=by omega
  rcases this with rfl | rfl | rfl | rfl | rfl
  ·exact ⟨0,by omega,rfl⟩
  ·exact ⟨1,by omega,rfl⟩
  ·exact ⟨2,by omega,rfl⟩
  ·exact ⟨3,by omega,rfl⟩
  ·exact ⟨4,by omega,rfl⟩
 ·exact h.unit k i (by omega) hi
theorem dig_ex {p : Int} (hp : isP p) {c : A6D} (h : inS p c) : ∃ n,n < (p ^ 6).toNat ∧ dig6 p n = c:=by
 obtain ⟨c1,c2,c3,c4,c5,c6,⟨⟩⟩:=c
 obtain ⟨h1,h2,h3,h4,h5,h6⟩:=h
 simp only at h1 h2 h3 h4 h5 h6
 rcases hp with rfl | rfl | rfl | rfl
 ·refine ⟨(c1 * 32 + c2 * 16 + c3 * 8 + c4 * 4 + c5 * 2 + c6).toNat,?_,?_⟩
  ·have : ((2:Int) ^ 6).toNat = 64:=by decide
   omega
  ·unfold dig6
   refine Prod.ext ?_ (Prod.ext ?_ (Prod.ext ?_ (Prod.ext ?_ (Prod.ext ?_ (Prod.ext ?_ rfl))))) <;> simp only [] <;> omega
 ·refine ⟨(c1 * 243 + c2 * 81 + c3 * 27 + c4 * 9 + c5 * 3 + c6).toNat,?_,?_⟩
  ·have : ((3:Int) ^ 6).toNat = 729:=by decide
   omega
  ·unfold dig6
   refine Prod.ext ?_ (Prod.ext ?_ (Prod.ext ?_ (Prod.ext ?_ (Prod.ext ?_ (Prod.ext ?_ rfl))))) <;> simp only [] <;> omega
 ·refine ⟨(c1 * 3125 + c2 * 625 + c3 * 125 + c4 * 25 + c5 * 5 + c6).toNat,?_,?_⟩
  ·have : ((5:Int) ^ 6).toNat = 15625:=by decide
   omega
  ·unfold dig6
   refine Prod.ext ?_ (Prod.ext ?_ (Prod.ext ?_ (Prod.ext ?_ (Prod.ext ?_ (Prod.ext ?_ rfl))))) <;> simp only [] <;> omega
 ·refine ⟨(c1 * 16807 + c2 * 2401 + c3 * 343 + c4 * 49 + c5 * 7 + c6).toNat,?_,?_⟩
  ·have : ((7:Int) ^ 6).toNat = 117649:=by decide
   omega
  ·unfold dig6
   refine Prod.ext ?_ (Prod.ext ?_ (Prod.ext ?_ (Prod.ext ?_ (Prod.ext ?_ (Prod.ext ?_ rfl))))) <;> simp only [] <;> omega
theorem l6_inS {p : Int} {c : A6D} (h : (l6 c).all (fun x=>decide (0 ≤ x) && decide (x < p)) = true) : inS p c:=by
 obtain ⟨c1,c2,c3,c4,c5,c6,⟨⟩⟩:=c
 simp [l6] at h
 exact ⟨h.1,h.2.1,h.2.2.1,h.2.2.2.1,h.2.2.2.2.1,h.2.2.2.2.2⟩
theorem nzv_at : ∀ {l : List Int},nzv l ≠ 0 → ∃ a,a < l.length ∧ l.getD a 0 = nzv l ∧ ∀ j,j < a → l.getD j 0 = 0
 | [],h=>absurd rfl h
 | x :: l,h=>by
  by_cases h0 : x = 0
  ·have e : nzv (x :: l) = nzv l:=by rw [nzv,if_pos h0]
   rw [e] at h ⊢
   obtain ⟨a,ha,h1,h2⟩:=nzv_at h
   refine ⟨a + 1,by simp;omega,by simpa using h1,fun j hj=>?_⟩
   cases j with
   | zero=>simpa using h0
   | succ j=>simpa using h2 j (by omega)
  ·exact ⟨0,by simp,by rw [nzv,if_neg h0];simp,fun j hj=>absurd hj (by omega)⟩
theorem sol_iff {p : Int} {rows : List (List Int)} (h5 : rows.length = 5) {c : A6D} : solB p rows c = true ↔ Sol p (mxL rows) fun j=>(l6 c).getD j 0:=by
 unfold solB Sol mxL
 rw [List.all_eq_true]
 constructor
 ·intro h i hi
  have:=h (rows.getD i []) (by rw [List.getD_eq_getElem?_getD,List.getElem?_eq_getElem (by omega)];exact List.getElem_mem _)
  exact Int.dvd_of_emod_eq_zero (ieq_iff.1 this)
 ·intro h r hr
  obtain ⟨i,hi,rfl⟩:=List.getElem_of_mem hr
  have:=h i (by omega)
  rw [List.getD_eq_getElem?_getD,List.getElem?_eq_getElem hi] at this
  exact ieq_iff.2 (Int.emod_eq_zero_of_dvd this)
theorem kerF_eq {p : Int} (hp : isP p) {rows : List (List Int)} (h5 : rows.length = 5) {R : Mx} {le : Nat → Nat} {fr : Nat} (hr : Red p R le fr) (hs : ∀ v,Sol p R v ↔ Sol p (mxL rows) v) {o : Nat → Int} (ho : Sol p R o) (h1 : o fr = 1) {c : A6D} (hc : isC6 p c = true) (hsol : solB p rows c = true) : kerF p rows = c:=by
 have h7:=isP_bd hp
 have spec : ∀ d : A6D,isC6 p d = true → inS p d ∧ ∃ a,a < 6 ∧ (l6 d).getD a 0 = 1 ∧ ∀ j,j < a → (l6 d).getD j 0 = 0:=fun d hd=>by
  unfold isC6 at hd
  rw [Bool.and_eq_true,ieq_iff] at hd
  refine ⟨l6_inS hd.1,?_⟩
  obtain ⟨a,ha,e1,e2⟩:=nzv_at (l:=l6 d) (by rw [hd.2];decide)
  exact ⟨a,ha,by rw [e1,hd.2],e2⟩
 have rng : ∀ d : A6D,inS p d → ∀ j,j < 6 → 0 ≤ (l6 d).getD j 0 ∧ (l6 d).getD j 0 < p:=fun d hd j hj=>by
  obtain ⟨a1,a2,a3,a4,a5,a6⟩:=hd
  rcases lt6 hj with rfl | rfl | rfl | rfl | rfl | rfl <;> assumption
 have uniq : ∀ d : A6D,isC6 p d = true → solB p rows d = true → d = c:=fun d hd hsd=>by
  obtain ⟨i1,a,ha,va,v0⟩:=spec d hd
  obtain ⟨i2,b,hb,wb,w0⟩:=spec c hc
  have:=red_one hr ho h1 ((hs _).2 ((sol_iff h5).1 hsd)) ((hs _).2 ((sol_iff h5).1 hsol)) (rng d i1) (rng c i2) ha hb va wb v0 w0 (fun x y hxy=>by
   refine Classical.byContradiction fun hn=>?_
   have hx : ¬ p ∣ x:=fun h=>hn (.inl h)
   have hy : ¬ p ∣ y:=fun h=>hn (.inr h)
   exact nd_mul hp hx hy hxy) h7.1
  obtain ⟨d1,d2,d3,d4,d5,d6,⟨⟩⟩:=d
  obtain ⟨c1,c2,c3,c4,c5,c6,⟨⟩⟩:=c
  have e1 : d1 = c1:=this 0 (by omega)
  have e2 : d2 = c2:=this 1 (by omega)
  have e3 : d3 = c3:=this 2 (by omega)
  have e4 : d4 = c4:=this 3 (by omega)
  have e5 : d5 = c5:=this 4 (by omega)
  have e6 : d6 = c6:=this 5 (by omega)
  subst e1 e2 e3 e4 e5 e6
  rfl
 obtain ⟨n,hn,hd⟩:=dig_ex hp (spec c hc).1
 unfold kerF
 cases hfd : ((List.range (p ^ 6).toNat).map (dig6 p)).find? fun c=>isC6 p c && solB p rows c with
 | none =>
  have:=(List.find?_eq_none.1 hfd) c (List.mem_map.2 ⟨n,List.mem_range.2 hn,hd⟩)
  rw [hc,hsol] at this
  exact absurd rfl this
 | some d =>
  have:=List.find?_some hfd
  rw [Bool.and_eq_true] at this
  exact uniq d this.1 this.2
end Go.Arcs
namespace Go.Arcs
open Go Go.Ab Go.Proofs
def cvL (l:List Int) : A6D:=(l.getD 0 0,l.getD 1 0,l.getD 2 0,l.getD 3 0,l.getD 4 0,l.getD 5 0,())
theorem l6_cvL {l : List Int} (h : l.length = 6) : l6 (cvL l) = l:=by
 obtain ⟨a,b,c,d,e,f,rfl⟩:=len6 h
 rfl
theorem nzI_at : ∀ {l : List Int} {i : Int} {j : Nat},j < l.length → l.getD j 0 ≠ 0 → ∃ a,a < l.length ∧ nzI l i = i + (a:Int) ∧ l.getD a 0 ≠ 0 ∧ ∀ m,m < a → l.getD m 0 = 0
 | [],i,j,h,_=>absurd h (by simp)
 | x :: l,i,j,h,hj=>by
  by_cases h0 : x = 0
  ·cases j with
   | zero=>exact absurd (by simpa using h0) hj
   | succ j =>
    obtain ⟨a,ha,e1,e2,e3⟩:=nzI_at (l:=l) (i:=i + 1) (j:=j) (by simpa using h) (by simpa using hj)
    refine ⟨a + 1,by simp;omega,by rw [nzI,if_pos h0,e1];omega,by simpa using e2,fun m hm=>?_⟩
    cases m with
    | zero=>simpa using h0
    | succ m=>simpa using e3 m (by omega)
  ·exact ⟨0,by simp,by rw [nzI,if_neg h0];simp,by simpa using h0,fun m hm=>absurd hm (by omega)⟩
theorem nzv_of : ∀ {l : List Int} {a : Nat},a < l.length → l.getD a 0 ≠ 0 → (∀ m,m < a → l.getD m 0 = 0) → nzv l = l.getD a 0
  | [],a,h,_,_=>absurd h (by simp)
  | x :: l,a,h,h1,h2=>by
    cases a with
    | zero => have : x ≠ 0 := by simpa using h1
              rw [nzv,if_neg this];simp
    | succ a =>
      have h0 : x = 0:=by simpa using h2 0 (by omega)
      rw [nzv,if_pos h0,nzv_of (a:=a) (by simpa using h) (by simpa using h1) (fun m hm=>by simpa using h2 (m + 1) (by omega))]
      simp
noncomputable def wL (p u:Int) (O:List Int) : List Int:=rowN O (fun j=>(O.getD j 0 * u) % p) 6
theorem kerF_res {p : Int} (hp : isP p) {rows : List (List Int)} (h5 : rows.length = 5) {R : Mx} {le : List Nat} {c : Nat} (hk : KI p (mxL rows) R le c) (hl : le.length = 5) {fr : Nat} (hf : fr < 6) (hn : fr ∉ le)
  {O : List Int} (h6 : O.length = 6) (hO : ∀ j,j < 6 → 0 ≤ O.getD j 0 ∧ O.getD j 0 < p) (o1 : O.getD fr 0 = 1) (ol : ∀ i,i < 5 → p ∣ O.getD (le.getD i 0) 0 + R i fr)
  {a : Nat} (ha : a < 6) (a1 : O.getD a 0 ≠ 0) (a0 : ∀ m,m < a → O.getD m 0 = 0) {u : Int} (hu : (u * O.getD a 0) % p = 1) : kerF p rows = cvL (wL p u O):=by
 have h7:=isP_bd hp
 have hr:=hk.red hl hf hn
 have hw6 : (wL p u O).length = 6:=rowN_len
 have hwg : ∀ j,j < 6 → (wL p u O).getD j 0 = (O.getD j 0 * u) % p:=fun j hj=>by unfold wL;rw [rowN_get hj,if_pos hj]
 have hSO : Sol p R fun j=>O.getD j 0:=(red_sol hr).2 fun i hi=>by
  obtain ⟨q,hq⟩:=ol i hi
  exact ⟨q,by rw [o1];show O.getD (le.getD i 0) 0 + R i fr * 1 = _;rw [Int.mul_one];exact hq⟩
 have hSW : Sol p R fun j=>(wL p u O).getD j 0:=(red_sol hr).2 fun i hi=>by
  obtain ⟨q,hq⟩:=ol i hi
  show p ∣ (wL p u O).getD (le.getD i 0) 0 + R i fr * (wL p u O).getD fr 0
  rw [hwg _ hf,hwg _ (hr.lt i hi),o1]
  obtain ⟨b,hb⟩:=emod_sub (p:=p) (x:=O.getD (le.getD i 0) 0 * u)
  obtain ⟨d,hd⟩:=emod_sub (p:=p) (x:=1 * u)
  exact ⟨b + R i fr * d + q * u,by grind⟩
 refine kerF_eq hp h5 hr hk.sol hSO o1 ?_ ?_
 ·unfold isC6
  rw [l6_cvL hw6,Bool.and_eq_true,ieq_iff,List.all_eq_true]
  constructor
  ·intro x hx
   obtain ⟨j,hj,rfl⟩:=List.getElem_of_mem hx
   have:=hwg j (by omega)
   rw [List.getD_eq_getElem?_getD,List.getElem?_eq_getElem hj] at this
   have e : (wL p u O)[j] = (O.getD j 0 * u) % p:=this
   rw [e,Bool.and_eq_true,decide_eq_true_iff,decide_eq_true_iff]
   exact ⟨Int.emod_nonneg _ (by omega),Int.emod_lt_of_pos _ (by omega)⟩
  ·have hwa : (wL p u O).getD a 0 = 1:=by rw [hwg a ha,Int.mul_comm];exact hu
   rw [nzv_of (a:=a) (by omega) (by rw [hwa];decide) (fun m hm=>by rw [hwg m (by omega),a0 m hm];simp),hwa]
 ·rw [sol_iff h5,l6_cvL hw6]
  exact (hk.sol _).1 hSW
end Go.Arcs
namespace Go.Arcs
open Go Go.Ab Go.Proofs
def oL (p:Int) (R:List (List Int)) (le : List Nat) (fr:Nat) : Nat → List Int
 | 0=>Z6.set fr 1
 | n + 1=>(oL p R le fr n).set (le.getD n 0) ((0 - (R.getD n []).getD fr 0) % p)
theorem oL_len {p : Int} {R : List (List Int)} {le : List Nat} {fr : Nat} : ∀ {n : Nat},(oL p R le fr n).length = 6
 | 0=>by simp [oL,Z6]
 | n + 1=>by rw [oL,List.length_set];exact oL_len
theorem set_getI {l : List Int} {i : Nat} (h : i < l.length) {x : Int} : (l.set i x).getD i 0 = x:=by
 rw [List.getD_eq_getElem?_getD,List.getElem?_set_self h];rfl
theorem set_neI {l : List Int} {i k : Nat} (h : i ≠ k) {x : Int} : (l.set i x).getD k 0 = l.getD k 0:=by
 rw [List.getD_eq_getElem?_getD,List.getElem?_set_ne h,List.getD_eq_getElem?_getD]
theorem oL_fr {p : Int} {R : List (List Int)} {le : List Nat} {fr : Nat} (hf : fr < 6) (hl : le.length = 5) (hn : fr ∉ le) : ∀ {n : Nat},n ≤ 5 → (oL p R le fr n).getD fr 0 = 1
 | 0,_=>set_getI (by simp [Z6];exact hf)
 | n + 1,h=>by
  rw [oL,set_neI (fun e=>hn (by rw [← e];exact getD_mem (by omega)))]
  exact oL_fr hf hl hn (by omega)
theorem oL_le {p : Int} {R : List (List Int)} {le : List Nat} {fr : Nat} (hl : le.length = 5) (h6 : ∀ x ∈ le,x < 6) (hr : le.Pairwise (· < ·)) : ∀ {n i : Nat},n ≤ 5 → i < n → (oL p R le fr n).getD (le.getD i 0) 0 = (0 - (R.getD i []).getD fr 0) % p
 | 0,i,_,hi=>absurd hi (by omega)
 | n + 1,i,h,hi=>by
  rw [oL]
  by_cases e : i = n
  ·subst e
   exact set_getI (by rw [oL_len];exact h6 _ (getD_mem (by omega)))
  ·have hlt : le.getD i 0 < le.getD n 0:=by
    have:=List.pairwise_iff_getElem.1 hr i n (by omega) (by omega) (by omega)
    rw [List.getD_eq_getElem?_getD,List.getD_eq_getElem?_getD,List.getElem?_eq_getElem (by omega),List.getElem?_eq_getElem (by omega)]
    exact this
   rw [set_neI (by omega)]
   exact oL_le hl h6 hr (by omega) (by omega)
theorem oL_bd {p : Int} (hp : 2 ≤ p) {R : List (List Int)} {le : List Nat} {fr : Nat} : ∀ {n : Nat},∀ x ∈ oL p R le fr n,0 ≤ x ∧ x < p
 | 0,x,hx=>by
  rcases List.mem_or_eq_of_mem_set hx with h | h
  ·simp [Z6] at h;omega
  ·omega
 | n + 1,x,hx=>by
  rw [oL] at hx
  rcases List.mem_or_eq_of_mem_set hx with h | h
  ·exact oL_bd hp x h
  ·rw [h];exact ⟨Int.emod_nonneg _ (by omega),Int.emod_lt_of_pos _ (by omega)⟩
end Go.Arcs
namespace Go.Arcs
open Go Go.Ab Go.Proofs
theorem outer {S X : Type} {F : S → Option (Lp S X)} {x : X} (st : S → Nat → Prop) (h : ∀ s c,c ≤ 6 → st s c → (c < 6 ∧ ∃ s',F s = some (.go s') ∧ st s' (c + 1)) ∨ F s = some (.out x)) : ∀ (d c:Nat) (s : S),c + d = 6 → st s c → whileO F s = some x:=by
 intro d
 induction d with
 | zero =>
  intro c s hc hs
  rcases h s c (by omega) hs with ⟨h1,_⟩ | h1
  ·omega
  ·exact whileO_out h1
 | succ d ih =>
  intro c s hc hs
  rcases h s c (by omega) hs with ⟨_,s',h1,h2⟩ | h1
  ·exact (whileO_go h1).trans (ih (c + 1) s' (by omega) h2)
  ·exact whileO_out h1
theorem inv_one {p n : Int} (hp : isP p) (hn : 0 < n ∧ n < p) : 1 ≤ invF p n ∧ invF p n ≤ 6 ∧ (invF p n * n) % p = 1:=by
 have h7:=isP_bd hp
 have hiv:=inv_spec hp hn
 have h1:=hiv.2.2 _ hiv.1 (Int.le_refl _)
 rw [ieq_iff.2 (show invF p _ = invF p _ from rfl),ieq_iff] at h1
 have hm:=mul_bd (a:=invF p n) (b:=n) (c:=7) ⟨by omega,by omega⟩ ⟨by omega,by omega⟩
 rw [wr_id (by omega),modF_eq (by omega)] at h1
 exact ⟨hiv.1,hiv.2.1,h1⟩
set_option maxHeartbeats 4000000 in
theorem goal106 : con106.goal Try.prog (spOf [con121,conInv2,conMod,con37,con99k]) g106_sh [900000,2050,2054] lm30:=by
  have e : (∀ (k : Option PlaneD) (rows:List (List Int)),k.isSome = true → isPl (k.getD plN) → rowsB rows → Ind (k.getD plN).1 (mxL rows) → g106 k rows = some (kerF (k.getD plN).1 rows,())) = con106.goal Try.prog (spOf [con121,conInv2,conMod,con37,con99k]) g106_sh [900000,2050,2054] lm30:=by kernel_rfl
  rw [← e]
  intro k rows hk hpl hB hI
  obtain ⟨k,rfl⟩:=Option.isSome_iff_exists.1 hk
  simp only [Option.getD_some] at hpl hI ⊢
  have hp:=hpl.1
  have h7:=isP_bd hp
  have hk0 : k.1 ≠ 0:=by omega
  unfold g106
  rw [gd_pos rfl,gd_pos rfl]
  refine outer (fun s c=>∃ R le,s = ((R,some k,Z6,leI le,(c:Int),()) : D2) ∧ KI k.1 (mxL rows) (mxL R) le c ∧ rowsB R) ?_ 6 0 _ rfl ⟨rows,[],rfl,⟨fun _=>Iff.rfl,hI,by simp,by omega,fun x hx=>(nomatch hx),List.Pairwise.nil,fun i m hi=>absurd hi (Nat.not_lt_zero _),fun j m hj=>absurd hj (Nat.not_lt_zero _)⟩,hB⟩
  rintro s c hc6 ⟨R,le,rfl,hK,hR⟩
  have hlen:=leI_len (le:=le)
  by_cases hgo : c < 6 ∧ le.length < 5
  · obtain ⟨hc,hl⟩:=hgo
    refine .inl ⟨hc,?_⟩
    have t1:=ilt_iff.2 (show (c:Int) < 6 by omega)
    have t2:=ilt_iff.2 (show (le.length:Int) < 5 by omega)
    have hin6 : (R.take (R.length)).length = 5:=by rw [List.take_length,hR.1]
    have hdl : (R.drop le.length).length = 5 - le.length:=by rw [List.length_drop,hR.1]
    have hc0 : g106_c0 ((R,some k,Z6,leI le,(c:Int),()) : D2) = ixR k.1 c (R.drop le.length) 0:=by
      unfold g106_c0
      simp only [Nat.zero_add,hlen,Option.getD_some]
      rw [List.take_of_length_le (by rw [List.length_drop];omega)]
    have hdr : ∀ r ∈ R.drop le.length,(c:Int) < r.length:=fun r hr=>by
      have:=(hR.2 r (List.mem_of_mem_drop hr)).1
      omega
    simp only [t1,t2,cond_true,hlen,hc0,Nat.zero_add,Option.isSome_some,Option.getD_some,gd_true,hR.1]
    have htk : List.take (5 - le.length) (List.drop le.length R) = List.drop le.length R:=List.take_of_length_le (by omega)
    simp only [htk]
    rw [gd_pos (fun _=>trivial),gd_pos (fun _=>trivial),gd_pos (fun _=>trivial),gd_pos ⟨by omega,by omega⟩,gd_pos (by omega),gd_pos hk0,gd_pos ⟨by omega,by omega,fun r hr=>hdr r hr⟩]
    have hgd : ∀ n,(R.drop le.length).getD n [] = R.getD (le.length + n) []:=fun n=>by
      rw [List.getD_eq_getElem?_getD,List.getElem?_drop,← List.getD_eq_getElem?_getD]
    rcases ix_cases (p:=k.1) (c:=(c:Int)) (L:=R.drop le.length) (i:=0) with ⟨e1,e2⟩ | ⟨n,hn,e1,e2⟩
    · rw [e1,ilt_iff.2 (show (-1:Int) < 0 by decide),cond_true,wr_id (by omega)]
      refine ⟨_,rfl,R,le,rfl,hK.none hc fun m hm h5=>?_,hR⟩
      refine Classical.byContradiction fun hd=>?_
      have h1:=(nz_iff h7 (R:=R) (i:=m) (c:=c)).2 hd
      have h2:=hgd (m - le.length)
      rw [show le.length + (m - le.length) = m by omega] at h2
      have hmem : R.getD m [] ∈ R.drop le.length:=by
        rw [← h2,List.getD_eq_getElem?_getD,List.getElem?_eq_getElem (by omega)];exact List.getElem_mem _
      rw [e2 _ hmem] at h1
      cases h1
    · rw [hdl] at hn
      rw [hgd n] at e2
      have hnz:=(nz_iff h7 (R:=R) (i:=le.length + n) (c:=c)).1 e2
      obtain ⟨u,hu,hK',hB',hne⟩:=hK.col hp hR hc hl (b:=le.length + n) ⟨by omega,by omega⟩ hnz
      rw [Int.zero_add] at e1
      have hwb : wr .i64 ((le.length:Int) + (n:Int)) = ((le.length + n:Nat):Int):=wr_id (by omega)
      have hc1 : g106_c1 ((R,some k,Z6,leI le,(c:Int),()) : D2) = ((swapR R le.length (le.length + n)).getD le.length []).getD c 0:=by
        unfold g106_c1
        simp only [Nat.zero_add,hlen,hc0,e1,hwb,Int.toNat_natCast]
      have hc2 : g106_c2 ((R,some k,Z6,leI le,(c:Int),()) : D2) = u:=by
        unfold g106_c2
        simp only [hc1,Option.getD_some]
        exact hu.symm
      have hsB:=swap_B hR (a:=le.length) (b:=le.length + n) hl (by omega)
      have hsa:=rB_row hsB hl
      have hsc:=hsa.2 c hc
      rw [e1,ilt_false.2 (by omega),cond_false]
      simp only [hwb,Int.toNat_natCast,hc1]
      have hsb:=(rB_row hsB (show le.length + n < 5 by omega)).1
      have hra:=(rB_row hR hl).1
      simp only [hsB.1,hsa.1,hsb,hra]
      repeat first | rw [gd_pos trivial] | rw [gd_pos hp] | rw [gd_pos hne] | rw [gd_pos (by omega)] | rw [gd_pos ⟨by omega,by omega⟩]
      have hx : g106_l11 ((R,some k,Z6,leI le,(c:Int),()) : D2) (5,6,(swapR R le.length (le.length + n)).set (leI le).length (rowN ((swapR R le.length (le.length + n)).getD (leI le).length []) (nrG k.1 (g106_c2 ((R,some k,Z6,leI le,(c:Int),()) : D2)) ((swapR R le.length (le.length + n)).getD (leI le).length [])) 6),some k,Z6,leI le,(c:Int),()) = some (.out (.go ((R3F k.1 u (swapR R le.length (le.length + n)) le.length c,some k,Z6,leI le ++ [(c:Int)],((c + 1:Nat):Int),()) : D2))):=by
        have hE : (R2F k.1 u (swapR R le.length (le.length + n)) le.length) = (swapR R le.length (le.length + n)).set (leI le).length (rowN ((swapR R le.length (le.length + n)).getD (leI le).length []) (nrG k.1 (g106_c2 ((R,some k,Z6,leI le,(c:Int),()) : D2)) ((swapR R le.length (le.length + n)).getD (leI le).length [])) 6):=by rw [hc2,hlen];rfl
        rw [← hE]
        have hf : ilt (6:Int) 6 = false:=rfl
        unfold g106_l11
        simp only [hf,cond_false,gd_true]
        have h2 : (R2F k.1 u (swapR R le.length (le.length + n)) le.length).length = 5:=by unfold R2F;rw [List.length_set];exact hsB.1
        have h26 : ∀ r ∈ R2F k.1 u (swapR R le.length (le.length + n)) le.length,r.length = 6:=fun r hr=>by
          unfold R2F at hr
          rcases List.mem_or_eq_of_mem_set hr with h | h
          · exact (hsB.2 r h).1
          · rw [h];exact rowN_len
        have:=loop10 (d2:=((R,some k,Z6,leI le,(c:Int),()) : D2)) (d3:=((5,6,R2F k.1 u (swapR R le.length (le.length + n)) le.length,some k,Z6,leI le,(c:Int),()) : D5)) rfl hk0 h2 h26 (by show (leI le).length < 5;omega) (o:=Z6) (L:=leI le) (by omega) hc
        refine Eq.trans this ?_
        show some (Lp.out (Lp.go ((elR k.1 _ (leI le).length c 5,_,_,_,_,()) : D2))) = _
        rw [hlen]
        rfl
      refine ⟨_,loop11 hk0 hsB.1 (fun r hr=>(hsB.2 r hr).1) (by show (leI le).length < 5;omega) hx,_,le ++ [c],?_,hK',hB'⟩
      rw [leI_app]
  · refine .inr ?_
    have hl5 : le.length = 5:=by
      by_cases h6 : c = 6
      · subst h6;exact hK.five h7.1
      · have:=hK.l5;omega
    have hg : (bif ilt (c:Int) 6 then ilt (le.length:Int) 5 else false) = false:=by
      rw [show ilt (le.length:Int) 5 = false from ilt_false.2 (by omega)]
      cases ilt (c:Int) 6 <;> rfl
    simp only [hlen,hg,cond_false,gd_true,List.drop_zero,Nat.zero_add]
    have hex : ∃ fr,fr < 6 ∧ fr ∉ le ∧ ∀ j,j < fr → j ∈ le:=by
      have hr:=hK.ris
      have hlt:=hK.lt
      have h6:=hK.c6
      obtain ⟨a,b,x,d,e',rfl⟩:=five5 hl5
      simp at hr hlt
      by_cases q0 : 0 ∈ [a,b,x,d,e']
      · by_cases q1 : 1 ∈ [a,b,x,d,e']
        · by_cases q2 : 2 ∈ [a,b,x,d,e']
          · by_cases q3 : 3 ∈ [a,b,x,d,e']
            · by_cases q4 : 4 ∈ [a,b,x,d,e']
              · exact ⟨5,by omega,by simp at q0 q1 q2 q3 q4 ⊢;omega,fun j hj=>by rcases lt5 hj with rfl | rfl | rfl | rfl | rfl <;> assumption⟩
              · exact ⟨4, by omega, q4, fun j hj => by have : j = 0 ∨ j = 1 ∨ j = 2 ∨ j = 3 := by omega
                                                       rcases this with rfl | rfl | rfl | rfl <;> assumption⟩
            · exact ⟨3, by omega, q3, fun j hj => by have : j = 0 ∨ j = 1 ∨ j = 2 := by omega
                                                     rcases this with rfl | rfl | rfl <;> assumption⟩
          · exact ⟨2, by omega, q2, fun j hj => by have : j = 0 ∨ j = 1 := by omega
                                                   rcases this with rfl | rfl <;> assumption⟩
        · exact ⟨1, by omega, q1, fun j hj => by have : j = 0 := by omega
                                                 subst this;assumption⟩
      · exact ⟨0,by omega,q0,fun j hj=>absurd hj (by omega)⟩
    obtain ⟨fr,hf6,hfn,hfb⟩:=hex
    rw [gd_pos (fun h=>h),gd_pos (fun h=>h),gd_pos (fun h=>h)]
    refine whileO_up (fun (i:Nat)=>(((i:Int),R,some k,Z6,leI le,()) : Int × List (List Int) × Option PlaneD × List Int × List Int × Unit)) fr _ (fun i hi=>?_) ?_
    · have hcn : List.contains (leI le) (i:Int) = true := by
        rw [List.contains_iff_mem]
        exact List.mem_map.2 ⟨i,hfb i hi,rfl⟩
      have htk : (leI le).take 5 = leI le:=List.take_of_length_le (by omega)
      simp only [hlen,hl5,htk,hcn,cond_true,gd_true]
      rw [gd_pos (by omega),gd_pos (by decide),wr_id (by omega)]
      rfl
    · have hcf : List.contains (leI le) (fr:Int) = false := by
        rw [← Bool.not_eq_true,List.contains_iff_mem]
        intro h
        obtain ⟨j,hj,e⟩:=List.mem_map.1 h
        have : j = fr:=by omega
        exact hfn (this ▸ hj)
      have htk : (leI le).take 5 = leI le:=List.take_of_length_le (by omega)
      simp only [hlen,hl5,htk,hcf,cond_false,gd_true,Int.toNat_natCast,Nat.mul_one]
      rw [gd_pos (by omega),gd_pos (by decide),gd_pos ⟨by omega,by omega⟩,gd_pos hf6]
      have hle6 : ∀ x ∈ le,x < 6:=fun x hx=>by have:=hK.lt x hx;omega
      refine whileO_up (fun (i:Nat)=>(((i:Int),R,some k,Z6,oL k.1 R le fr i,leI le,()) : Int × List (List Int) × Option PlaneD × List Int × List Int × List Int × Unit)) 5 _ (fun i hi=>?_) ?_
      · have hlt : ilt (i:Int) ((5:Nat):Int) = true:=ilt_iff.2 (by omega)
        have hgi : (leI le).getD i 0 = ((le.getD i 0:Nat):Int):=by
          unfold leI
          rw [List.getD_eq_getElem?_getD,List.getElem?_map,List.getD_eq_getElem?_getD]
          cases le[i]? <;> rfl
        have hl6:=hle6 _ (getD_mem (le:=le) (i:=i) (by omega))
        have hrow:=rB_row hR hi
        have hc13:=hrow.2 fr hf6
        simp only [hlt,cond_true,hlen,hl5,hgi,Int.toNat_natCast,Nat.mul_one,Option.isSome_some,Option.getD_some,hR.1,hrow.1,oL_len]
        repeat first | rw [gd_pos trivial] | rw [gd_pos hk0] | rw [gd_pos (by omega)] | rw [gd_pos ⟨by omega,by omega⟩]
        have h13 : g106_c13 ((fr:Int),R,some k,Z6,leI le,()) ((i:Int),R,some k,Z6,oL k.1 R le fr i,leI le,()) = (0 - (R.getD i []).getD fr 0) % k.1:=by
          unfold g106_c13 g106_c12
          simp only [Nat.zero_add,Int.toNat_natCast,Option.getD_some]
          rw [wr_id (by omega),modF_eq (by omega)]
        rw [h13,wr_id (by omega)]
        rfl
      · have hf5 : ilt (((5:Nat):Nat):Int) ((5:Nat):Int) = false:=ilt_false.2 (Int.le_refl _)
        have htO : List.take 6 (oL k.1 R le fr 5) = oL k.1 R le fr 5:=List.take_of_length_le (by rw [oL_len];omega)
        have hofr:=oL_fr (p:=k.1) (R:=R) hf6 hl5 hfn (n:=5) (Nat.le_refl _)
        obtain ⟨a,ha,e1,a1,a0⟩:=nzI_at (l:=oL k.1 R le fr 5) (i:=0) (j:=fr) (by rw [oL_len];exact hf6) (by rw [hofr];decide)
        rw [oL_len] at ha
        rw [Int.zero_add] at e1
        have h14 : g106_c14 (((5:Nat):Int),R,some k,Z6,oL k.1 R le fr 5,leI le,()) = (oL k.1 R le fr 5).getD a 0:=by
          unfold g106_c14
          simp only [List.drop_zero,htO,e1,Int.toNat_natCast,Nat.zero_add,Nat.mul_one]
        have hO : ∀ j,j < 6 → 0 ≤ (oL k.1 R le fr 5).getD j 0 ∧ (oL k.1 R le fr 5).getD j 0 < k.1:=fun j hj=>oL_bd h7.1 (R:=R) (le:=le) (fr:=fr) (n:=5) _ (by
          rw [List.getD_eq_getElem?_getD,List.getElem?_eq_getElem (by rw [oL_len];exact hj)];exact List.getElem_mem _)
        have hOa:=hO a ha
        have hmod : (oL k.1 R le fr 5).getD a 0 % k.1 ≠ 0:=by rw [Int.emod_eq_of_lt hOa.1 hOa.2];exact a1
        simp only [hf5,cond_false,oL_len,htO,gd_true,Option.isSome_some,Option.getD_some,e1,Int.toNat_natCast,Nat.mul_one,h14]
        repeat first | rw [gd_pos trivial] | rw [gd_pos hp] | rw [gd_pos hmod] | rw [gd_pos (by decide)] | rw [gd_pos (by omega)] | rw [gd_pos ⟨by omega,by omega⟩]
        have hnp : 0 < (oL k.1 R le fr 5).getD a 0 ∧ (oL k.1 R le fr 5).getD a 0 < k.1:=⟨by omega,hOa.2⟩
        obtain ⟨u1,u6,hu⟩:=inv_one hp hnp
        have hol : ∀ i,i < 5 → k.1 ∣ (oL k.1 R le fr 5).getD (le.getD i 0) 0 + mxL R i fr:=fun i hi=>by
          rw [oL_le hl5 hle6 hK.ris (Nat.le_refl _) hi]
          obtain ⟨q,hq⟩:=emod_sub (p:=k.1) (x:=0 - (R.getD i []).getD fr 0)
          exact ⟨q,by unfold mxL;omega⟩
        have hker:=kerF_res hp hB.1 hK hl5 hf6 hfn oL_len hO hofr hol ha a1 a0 hu
        have h15 : g106_c15 (((5:Nat):Int),R,some k,Z6,oL k.1 R le fr 5,leI le,()) = invF k.1 ((oL k.1 R le fr 5).getD a 0):=by
          unfold g106_c15
          rw [h14]
          show invF k.1 ((oL k.1 R le fr 5).getD a 0 % k.1) = _
          rw [Int.emod_eq_of_lt hOa.1 hOa.2]
        generalize invF k.1 ((oL k.1 R le fr 5).getD a 0) = u at *
        have hO6 : (oL k.1 R le fr 5).length = 6:=oL_len
        have hst : oL k.1 R le fr 5 = rowN (oL k.1 R le fr 5) (fun j=>((oL k.1 R le fr 5).getD j 0 * u) % k.1) 0:=(rowN_0 hO6).symm
        have h17 : ∀ i : Nat,i < 6 → g106_c17 (((5:Nat):Int),R,some k,Z6,oL k.1 R le fr 5,leI le,()) ((i:Int),some k,Z6,rowN (oL k.1 R le fr 5) (fun j=>((oL k.1 R le fr 5).getD j 0 * u) % k.1) i,()) = ((oL k.1 R le fr 5).getD i 0 * u) % k.1:=fun i hi=>by
          unfold g106_c17 g106_c16
          rw [h15]
          simp only [Nat.zero_add,Nat.mul_one,Int.toNat_natCast,rowN_get hi,Nat.lt_irrefl,if_false,Option.getD_some]
          have hb:=hO i hi
          have hm:=mul_bd (a:=(oL k.1 R le fr 5).getD i 0) (b:=u) (c:=7) ⟨hb.1,by omega⟩ ⟨by omega,by omega⟩
          rw [wr_id (by omega),modF_eq (by omega)]
        generalize oL k.1 R le fr 5 = O at *
        refine Eq.trans (congrArg _ (show ((0:Int),some k,Z6,O,()) = (((0:Nat):Int),some k,Z6,rowN O (fun j=>(O.getD j 0 * u) % k.1) 0,()) by rw [← hst];rfl)) ?_
        refine whileO_up (fun (i:Nat)=>(((i:Int),some k,Z6,rowN O (fun j=>(O.getD j 0 * u) % k.1) i,()) : Int × Option PlaneD × List Int × List Int × Unit)) 6 _ (fun i hi=>?_) ?_
        · have hlt : ilt (i:Int) 6 = true:=ilt_iff.2 (by omega)
          simp only [hlt,cond_true,rowN_len,Int.toNat_natCast,Option.isSome_some,Option.getD_some,gd_true,h17 i hi]
          repeat first | rw [gd_pos trivial] | rw [gd_pos hk0] | rw [gd_pos hi] | rw [gd_pos ⟨by omega,by omega⟩]
          rw [wr_id (by omega),rowN_set hi]
          rfl
        · have hlt : ilt ((6:Nat):Int) 6 = false:=ilt_false.2 (by omega)
          simp only [hlt,cond_false,rowN_len]
          rw [hker]
          exact (gd_pos (Nat.le_refl 6)).trans ((gd_pos (Nat.le_refl 6)).trans ((gd_pos (Nat.le_refl 6)).trans rfl))
end Go.Arcs
namespace Go.Arcs
open Go Go.Ab Go.Proofs
set_option maxRecDepth 100000 in
theorem ok106 : con106.Ok Try.prog:=SCon.of_goal mixed (okC ok121 (okC okInv2 (okC okMod (okC ok37 (okC ok99k okN))))) okS0 con106 goal106
set_option maxRecDepth 100000 in
theorem ok56 : con56.Ok Try.prog:=Con.of_goalS mixed (okC ok78 (okC ok104 (okC ok105 okN))) (okS ok106 okS0) con56 goal56
theorem nz_parts : ∀ {l : List Int} {i : Int},(nzI l i = -1 ∧ nzv l = 0) ∨ ∃ a : Nat,nzI l i = i + (a:Int) ∧ nzv l = l.getD a 0
 | [],i=>.inl ⟨rfl,rfl⟩
 | x :: l,i=>by
  by_cases h : x = 0
  ·rcases nz_parts (l:=l) (i:=i + 1) with ⟨h1,h2⟩ | ⟨a,h1,h2⟩
   ·exact .inl ⟨by rw [nzI,if_pos h,h1],by rw [nzv,if_pos h,h2]⟩
   ·exact .inr ⟨a + 1,by rw [nzI,if_pos h,h1];omega,by rw [nzv,if_pos h,h2];simp⟩
  ·exact .inr ⟨0,by rw [nzI,if_neg h];simp,by rw [nzv,if_neg h];simp⟩
theorem isC_eq {p : Int} {c : A6D} : isCb p c = (isPb p && isC6 p c):=by
 unfold isCb isC6
 rw [Bool.and_assoc,Bool.and_assoc]
 congr 2
 rcases nz_parts (l:=l6 c) (i:=0) with ⟨h1,h2⟩ | ⟨a,h1,h2⟩
 ·rw [h1,h2];rfl
 ·rw [h1,h2,Int.zero_add,Int.toNat_natCast,show decide (0 ≤ (a:Int)) = true from decide_eq_true (Int.natCast_nonneg _)]
  rfl
theorem quad_s6 {c : A6D} {t : TripD} : s6 (fun j=>(l6 (powF t)).getD j 0 * (l6 c).getD j 0) = quad c t:=by
 show t.1 * t.1 * c.1 + t.2.1 * t.2.1 * c.2.1 + t.2.2.1 * t.2.2.1 * c.2.2.1 + t.1 * t.2.1 * c.2.2.2.1 + t.1 * t.2.2.1 * c.2.2.2.2.1 + t.2.1 * t.2.2.1 * c.2.2.2.2.2.1 = _
 unfold quad
 rw [Int.mul_comm c.1,Int.mul_comm c.2.1,Int.mul_comm c.2.2.1,Int.mul_comm c.2.2.2.1,Int.mul_comm c.2.2.2.2.1,Int.mul_comm c.2.2.2.2.2.1]
end Go.Arcs
namespace Go.Arcs
open Go Go.Ab Go.Proofs
theorem goal54 : con54.goal Try.prog (spOf [conRead,con103,con99c,con101,con102]) g54_sh [] lm30:=by
 have e : (∀ (p:Int) (c : A6D),g54 p c = some (crvX p c)) = con54.goal Try.prog (spOf [conRead,con103,con99c,con101,con102]) g54_sh [] lm30:=by kernel_rfl
 rw [← e]
 intro p c
 have hs0 : small ([]:List Int):=by simp [small]
 have hs6 : small [c.1,c.2.1,c.2.2.1,c.2.2.2.1,c.2.2.2.2.1,c.2.2.2.2.2.1]:=by simp [small]
 by_cases hp : isPb p = true
 ·have hP:=isPb_iff.1 hp
  have hr : readF p [] = (some (planeF p),true,()):=by rw [readF,if_pos hp];rfl
  have h7:=isP_bd hP
  have hpl : isPl (planeF p):=⟨hP,rfl⟩
  have hpts : (planeF p).2.1 = ptsC p:=plane_pts p (isP_mem hP)
  have h1 : (planeF p).1 = p:=rfl
  have e0 : g54_c0 p c = ilt (nzI (l6 c) 0) 0:=by unfold g54_c0;rw [hr];rfl
  have e1 : g54_c1 c = (l6 c).getD (nzI (l6 c) 0).toNat 0:=by
   unfold g54_c1
   show (l6 c).getD (0 + (nzI (l6 c) 0).toNat * 1) 0 = _
   rw [Nat.zero_add,Nat.mul_one]
  have hnz:=nzI_rng (l6 c) 0
  rw [show ((l6 c).length:Int) = 6 from rfl] at hnz
  have hcond : (bif g54_c2 p c then true else ile p (List.foldl imax c.1 [c.2.1,c.2.2.1,c.2.2.2.1,c.2.2.2.2.1,c.2.2.2.2.2.1])) = !isCb p c:=by
   unfold g54_c2 isCb
   rw [e0,e1,hp,cur_cond]
   generalize hn : nzI (l6 c) 0 = nz
   have : ilt nz 0 = !decide (0 ≤ nz):=by
    rw [Bool.eq_iff_iff]
    simp only [ilt,Bool.not_eq_true',decide_eq_true_eq,decide_eq_false_iff_not];omega
   rw [this]
   generalize decide (0 ≤ nz) = d1
   generalize ieq ((l6 c).getD nz.toNat 0) 1 = d2
   generalize ilt (List.foldl imin c.1 [c.2.1,c.2.2.1,c.2.2.2.1,c.2.2.2.2.1,c.2.2.2.2.2.1]) 0 = d3
   generalize ile p (List.foldl imax c.1 [c.2.1,c.2.2.1,c.2.2.2.1,c.2.2.2.2.1,c.2.2.2.2.2.1]) = d4
   cases d1 <;> cases d2 <;> cases d3 <;> cases d4 <;> rfl
  have hc0 : (!g54_c0 p c) = true → 0 ≤ nzI (l6 c) 0 ∧ nzI (l6 c) 0 < 6:=by
   rw [e0]
   intro h
   have : ¬ nzI (l6 c) 0 < 0:=fun g=>by rw [ilt_iff.2 g] at h;cases h
   omega
  unfold g54
  rw [gd_pos hs0,gd_pos (Nat.le_refl _),gd_pos hs6,gd_pos (by simp),gd_pos (by simp)]
  refine (gd_pos (fun h=>⟨h,hc0 h⟩)).trans ((gd_pos (fun h=>⟨h,by have:=hc0 h;show 0 + (nzI (l6 c) 0).toNat * 1 < 6;omega⟩)).trans ?_)
  rw [gd_pos (fun h=>h),gd_pos (by intro h;rw [h];rfl),gd_pos (fun h=>⟨h,Nat.le_refl _,rfl⟩),gd_pos (fun h=>h),gd_pos (by intro h;rw [h];rfl),gd_pos (fun h=>⟨h,Nat.le_refl _,rfl⟩),gd_pos (fun h=>⟨h,h⟩),gd_pos (by intro h;rw [h];rfl)]
  by_cases hC : isCb p c = true
  ·rw [hC] at hcond
   have hX : crvX p c = (crvF p c,0,()):=by rw [crvX,if_pos hC]
   obtain ⟨_,hS,_,_⟩:=isC_parts hC
   rw [hX]
   refine (cond_f hcond).trans ?_
   simp only [hr,Option.isSome_some,gd_true]
   have hl57:=pts_57 hP
   have hlen:=pts_len p (isP_mem hP)
   have e3 : g54_c3 p = ((ptsC p).length:Int):=by
    unfold g54_c3
    rw [hr]
    show (((planeF p).2.1).length:Int) = _
    rw [hpts]
   refine whileO_nat (st:=fun i : Nat=>(((i:Int),l6 c,flt (fun (x:Nat)=>onC p c (x:Int)) i,()) : Int × List Int × List Int × Unit)) (lo:=0) (hi:=(ptsC p).length) (Nat.zero_le _) ?_ ?_
   ·intro i _ hi
    have hin : inPt p (i:Int) = true:=inPt_iff.2 ⟨Int.natCast_nonneg _,by omega⟩
    have hfl:=flt_len (q:=fun (x:Nat)=>onC p c (x:Int)) (n:=i)
    refine (cond_t (by rw [e3];exact ilt_iff.2 (Int.ofNat_lt.2 hi))).trans ?_
    have e4 : g54_c4 p ((i:Int),l6 c,flt (fun (x:Nat)=>onC p c (x:Int)) i,()) = onC p c (i:Int):=by
     unfold g54_c4
     rw [hr]
     rfl
    refine (gd_pos (show 6 ≤ (l6 c).length from Nat.le_refl _)).trans ?_
    refine (gd_pos hpl).trans ((gd_pos hS).trans ((gd_pos hin).trans ?_))
    rw [flt_succ]
    cases hq : onC p c (i:Int) with
    | true =>
     refine (cond_t (by rw [e4];exact hq)).trans ?_
     simp only [List.take_length,cast1 (i:=i) (by omega),if_true]
     rw [gd_pos (Nat.le_refl _),gd_pos (by omega),gd_pos (by simp)]
    | false =>
     refine (cond_f (by rw [e4];exact hq)).trans ?_
     simp only [cast1 (i:=i) (by omega),Bool.false_eq_true,if_false,List.append_nil]
   ·refine (cond_f (by rw [e3];exact ilt_false.2 (Int.le_refl _))).trans ?_
    simp only [Nat.zero_add,List.drop_zero,List.take_length]
    exact gd_pos (Nat.le_refl _)
  ·have hC' : isCb p c = false:=by simpa using hC
   rw [hC'] at hcond
   have hX : crvX p c = ([],2,()):=by rw [crvX,if_neg hC]
   rw [hX]
   exact cond_t hcond
 ·have hr : readF p [] = (none,false,()):=by rw [readF,if_neg hp]
  have hX : crvX p c = ([],2,()):=by
   rw [crvX,if_neg (fun h=>hp (isC_parts h).1)]
  have e0 : g54_c0 p c = true:=by unfold g54_c0;rw [hr];rfl
  have e2 : g54_c2 p c = true:=by unfold g54_c2;rw [e0];rfl
  rw [hX]
  unfold g54
  simp only [e0,e2,hs0,hs6,hr,gd_true,Nat.le_refl,Bool.not_true,Bool.not_false,Bool.false_eq_true,Bool.true_eq_false,false_implies,cond_true,implies_true]
set_option maxRecDepth 100000 in
theorem ok54 : con54.Ok Try.prog:=Con.of_goal mixed (okC okRead (okC ok103 (okC ok99c (okC ok101 (okC ok102 okN))))) con54 goal54
end Go.Arcs
namespace Go.Arcs
open Go Go.Ab Go.Proofs
end Go.Arcs
namespace Go.Arcs
open Go Go.Ab Go.Proofs
end Go.Arcs
namespace Go.Arcs
open Go Go.Ab Go.Proofs
theorem free_ex {le : List Nat} (hl5 : le.length = 5) (hr : le.Pairwise (· < ·)) (hlt : ∀ x ∈ le,x < 6) : ∃ fr,fr < 6 ∧ fr ∉ le:=by
 obtain ⟨a,b,x,d,e',rfl⟩:=five5 hl5
 simp at hr hlt
 by_cases q0 : 0 ∈ [a,b,x,d,e']
 ·by_cases q1 : 1 ∈ [a,b,x,d,e']
  ·by_cases q2 : 2 ∈ [a,b,x,d,e']
   ·by_cases q3 : 3 ∈ [a,b,x,d,e']
    ·by_cases q4 : 4 ∈ [a,b,x,d,e']
     ·exact ⟨5,by omega,by simp at q0 q1 q2 q3 q4 ⊢;omega⟩
     ·exact ⟨4,by omega,q4⟩
    ·exact ⟨3,by omega,q3⟩
   ·exact ⟨2,by omega,q2⟩
  ·exact ⟨1,by omega,q1⟩
 ·exact ⟨0,by omega,q0⟩
theorem KI_ex {p : Int} (hp : isP p) {rows : List (List Int)} (hB : rowsB rows) (hI : Ind p (mxL rows)) : ∃ (R:List (List Int)) (le : List Nat) (c:Nat),KI p (mxL rows) (mxL R) le c ∧ le.length = 5 ∧ rowsB R:=by
 have h7:=isP_bd hp
 have key : ∀ (d c:Nat) (R:List (List Int)) (le : List Nat),c + d = 6 → KI p (mxL rows) (mxL R) le c → rowsB R → ∃ (R:List (List Int)) (le : List Nat) (c:Nat),KI p (mxL rows) (mxL R) le c ∧ le.length = 5 ∧ rowsB R:=by
  intro d
  induction d with
  | zero =>
   intro c R le hc hK hR
   obtain rfl : c = 6:=by omega
   exact ⟨R,le,6,hK,hK.five h7.1,hR⟩
  | succ d ih =>
   intro c R le hc hK hR
   by_cases hl : le.length < 5
   ·by_cases hb : ∃ b,le.length ≤ b ∧ b < 5 ∧ ¬ p ∣ mxL R b c
    ·obtain ⟨b,h1,h2,h3⟩:=hb
     obtain ⟨u,_,hK',hB',_⟩:=hK.col hp hR (by omega) hl ⟨h1,h2⟩ h3
     exact ih (c + 1) _ _ (by omega) hK' hB'
    ·refine ih (c + 1) R le (by omega) (hK.none (by omega) fun m h1 h2=>?_) hR
     exact Classical.byContradiction fun h3=>hb ⟨m,h1,h2,h3⟩
   ·exact ⟨R,le,c,hK,by have:=hK.l5;omega,hR⟩
 exact key 6 0 rows [] rfl ⟨fun _=>Iff.rfl,hI,by simp,by omega,fun x hx=>(nomatch hx),List.Pairwise.nil,fun i m hi=>absurd hi (Nat.not_lt_zero _),fun j m hj=>absurd hj (Nat.not_lt_zero _)⟩ hB
theorem ker_sol {p : Int} (hp : isP p) {rows : List (List Int)} (hB : rowsB rows) (hI : Ind p (mxL rows)) : ∃ (R : Mx) (le : List Nat) (fr:Nat) (O : Nat → Int) (u:Int),Red p R (fun i=>le.getD i 0) fr ∧ (∀ v,Sol p R v ↔ Sol p (mxL rows) v) ∧ Sol p R O ∧ O fr = 1 ∧ ¬ p ∣ u ∧ ∀ j,j < 6 → p ∣ (l6 (kerF p rows)).getD j 0 - u * O j:=by
 have h7:=isP_bd hp
 obtain ⟨R,le,c,hK,hl5,hR⟩:=KI_ex hp hB hI
 have hle6 : ∀ x ∈ le,x < 6:=fun x hx=>by have:=hK.lt x hx;have:=hK.c6;omega
 obtain ⟨fr,hf6,hfn⟩:=free_ex hl5 hK.ris hle6
 have hofr:=oL_fr (p:=p) (R:=R) hf6 hl5 hfn (n:=5) (Nat.le_refl _)
 obtain ⟨a,ha,_,a1,a0⟩:=nzI_at (l:=oL p R le fr 5) (i:=0) (j:=fr) (by rw [oL_len];exact hf6) (by rw [hofr];decide)
 rw [oL_len] at ha
 have hO : ∀ j,j < 6 → 0 ≤ (oL p R le fr 5).getD j 0 ∧ (oL p R le fr 5).getD j 0 < p:=fun j hj=>oL_bd h7.1 (R:=R) (le:=le) (fr:=fr) (n:=5) _ (by
  rw [List.getD_eq_getElem?_getD,List.getElem?_eq_getElem (by rw [oL_len];exact hj)];exact List.getElem_mem _)
 have hOa:=hO a ha
 obtain ⟨u1,u6,hu⟩:=inv_one hp (show 0 < (oL p R le fr 5).getD a 0 ∧ (oL p R le fr 5).getD a 0 < p from ⟨by omega,hOa.2⟩)
 have hol : ∀ i,i < 5 → p ∣ (oL p R le fr 5).getD (le.getD i 0) 0 + mxL R i fr:=fun i hi=>by
  rw [oL_le hl5 hle6 hK.ris (Nat.le_refl _) hi]
  obtain ⟨q,hq⟩:=emod_sub (p:=p) (x:=0 - (R.getD i []).getD fr 0)
  exact ⟨q,by unfold mxL;omega⟩
 have hr:=hK.red hl5 hf6 hfn
 refine ⟨mxL R,le,fr,fun j=>(oL p R le fr 5).getD j 0,invF p ((oL p R le fr 5).getD a 0),hr,hK.sol,(red_sol hr).2 fun i hi=>?_,hofr,fun hd=>?_,fun j hj=>?_⟩
 ·obtain ⟨q,hq⟩:=hol i hi
  exact ⟨q,by rw [hofr];show (oL p R le fr 5).getD (le.getD i 0) 0 + mxL R i fr * 1 = _;rw [Int.mul_one];exact hq⟩
 ·obtain ⟨q,hq⟩:=hd
  rw [hq,Int.mul_assoc,Int.mul_emod_right] at hu
  cases hu
 ·rw [kerF_res hp hB.1 hK hl5 hf6 hfn oL_len hO hofr hol ha a1 a0 hu,l6_cvL (show (wL p _ (oL p R le fr 5)).length = 6 from rowN_len)]
  unfold wL
  rw [rowN_get hj,if_pos hj]
  obtain ⟨q,hq⟩:=emod_sub (p:=p) (x:=(oL p R le fr 5).getD j 0 * invF p ((oL p R le fr 5).getD a 0))
  exact ⟨q,by rw [Int.mul_comm (invF p _)];exact hq⟩
end Go.Arcs
namespace Go.Arcs
open Go Go.Ab Go.Proofs
theorem crv_mem {p : Int} (hp : isP p) {c : A6D} : ∀ x ∈ crvF p c,inPt p x = true ∧ onC p c x = true:=fun x hx=>by
 unfold crvF flt at hx
 obtain ⟨n,hn,rfl⟩:=List.mem_map.1 hx
 rw [List.mem_filter,List.mem_range] at hn
 have:=pts_len p (isP_mem hp)
 exact ⟨inPt_iff.2 ⟨Int.natCast_nonneg _,by omega⟩,hn.2⟩
theorem crv_iff {p : Int} (hp : isP p) {c : A6D} {x : Int} : x ∈ crvF p c ↔ inPt p x = true ∧ onC p c x = true:=by
 refine ⟨crv_mem hp x,fun ⟨h1,h2⟩=>?_⟩
 have h:=inPt_iff.1 h1
 have:=pts_len p (isP_mem hp)
 unfold crvF flt
 exact List.mem_map.2 ⟨x.toNat,by rw [List.mem_filter,List.mem_range,Int.toNat_of_nonneg h.1];exact ⟨by omega,h2⟩,Int.toNat_of_nonneg h.1⟩
theorem crv_ris {p : Int} {c : A6D} : ris (crvF p c) = true:=(flt_ris (q:=fun (x:Nat)=>onC p c (x:Int))).1
theorem crv_len {p : Int} (hp : isP p) {c : A6D} : (crvF p c).length ≤ 57:=by
 have h1:=flt_len (q:=fun (x:Nat)=>onC p c (x:Int)) (n:=(ptsC p).length)
 have h2:=pts_57 hp
 unfold crvF
 omega
end Go.Arcs
namespace Go.Arcs
open Go Go.Ab Go.Proofs
noncomputable def con18 : Con:=mkC 18 [.d I64,.d LI,.d A6] [.bool] (fun (p:Int) (l:List Int) (c : A6D)=>[small2 l]) (fun (p:Int) (l:List Int) (c : A6D)=>(true,()))
noncomputable def g18_c0 (x0:Int) (x1:List Int) : Bool:=bif bif ieq (growX x0 (List.take 60 x1)).2.1 0 then ilt 4 x0 else false then ieq (↑(List.length (growX x0 (List.take 60 x1)).1):Int) (wr .i64 (x0 + 1)) else false
noncomputable def g18_c1 (x0:Int) (x1:List Int) : Int:=(crvX x0 (((thrX x0 (List.take 5 (growX x0 (List.take 60 x1)).1)).1.1,(thrX x0 (List.take 5 (growX x0 (List.take 60 x1)).1)).1.2.1,(thrX x0 (List.take 5 (growX x0 (List.take 60 x1)).1)).1.2.2.1,(thrX x0 (List.take 5 (growX x0 (List.take 60 x1)).1)).1.2.2.2.1,(thrX x0 (List.take 5 (growX x0 (List.take 60 x1)).1)).1.2.2.2.2.1,(thrX x0 (List.take 5 (growX x0 (List.take 60 x1)).1)).1.2.2.2.2.2.1,()) : Int × Int × Int × Int × Int × Int × Unit)).2.1
noncomputable def g18_c2 (x0:Int) (x1:List Int) : Bool:=eqLf ieq (crvX x0 (((thrX x0 (List.take 5 (growX x0 (List.take 60 x1)).1)).1.1,(thrX x0 (List.take 5 (growX x0 (List.take 60 x1)).1)).1.2.1,(thrX x0 (List.take 5 (growX x0 (List.take 60 x1)).1)).1.2.2.1,(thrX x0 (List.take 5 (growX x0 (List.take 60 x1)).1)).1.2.2.2.1,(thrX x0 (List.take 5 (growX x0 (List.take 60 x1)).1)).1.2.2.2.2.1,(thrX x0 (List.take 5 (growX x0 (List.take 60 x1)).1)).1.2.2.2.2.2.1,()) : Int × Int × Int × Int × Int × Int × Unit)).1 (growX x0 (List.take 60 x1)).1
noncomputable def g18_c3 (x0:Int) (x1:List Int) : Bool:=bif bif !ieq (thrX x0 (List.take 5 (growX x0 (List.take 60 x1)).1)).2.1 0 then true else !ieq (g18_c1 x0 x1) 0 then true else !g18_c2 x0 x1
noncomputable def g18_c4 (x0:Int) (x2 : Int × Int × Int × Int × Int × Int × Unit) : Int:=(crvX x0 ((x2.1,x2.2.1,x2.2.2.1,x2.2.2.2.1,x2.2.2.2.2.1,x2.2.2.2.2.2.1,()) : Int × Int × Int × Int × Int × Int × Unit)).2.1
noncomputable def g18_c5 (x0:Int) (x2 : Int × Int × Int × Int × Int × Int × Unit) : Int:=(↑(List.length (crvX x0 ((x2.1,x2.2.1,x2.2.2.1,x2.2.2.2.1,x2.2.2.2.2.1,x2.2.2.2.2.2.1,()) : Int × Int × Int × Int × Int × Int × Unit)).1):Int)
noncomputable def g18_c6 (x0:Int) (x2 : Int × Int × Int × Int × Int × Int × Unit) : Bool:=(arcX x0 (crvX x0 ((x2.1,x2.2.1,x2.2.2.1,x2.2.2.2.1,x2.2.2.2.2.1,x2.2.2.2.2.2.1,()) : Int × Int × Int × Int × Int × Int × Unit)).1).1
noncomputable def g18_c7 (x0:Int) (x2 : Int × Int × Int × Int × Int × Int × Unit) : Int:=(arcX x0 (crvX x0 ((x2.1,x2.2.1,x2.2.2.1,x2.2.2.2.1,x2.2.2.2.2.1,x2.2.2.2.2.2.1,()) : Int × Int × Int × Int × Int × Int × Unit)).1).2.1
noncomputable def g18_c8 (x0:Int) (x2 : Int × Int × Int × Int × Int × Int × Unit) : Int:=List.getD (crvX x0 ((x2.1,x2.2.1,x2.2.2.1,x2.2.2.2.1,x2.2.2.2.2.1,x2.2.2.2.2.2.1,()) : Int × Int × Int × Int × Int × Int × Unit)).1 0 0
noncomputable def g18_c9 (x0:Int) (x2 : Int × Int × Int × Int × Int × Int × Unit) : Int:=List.getD (crvX x0 ((x2.1,x2.2.1,x2.2.2.1,x2.2.2.2.1,x2.2.2.2.2.1,x2.2.2.2.2.2.1,()) : Int × Int × Int × Int × Int × Int × Unit)).1 1 0
noncomputable def g18_c10 (x0:Int) (x2 : Int × Int × Int × Int × Int × Int × Unit) (d3 : Bool × Int × Unit) : Int:=List.getD (crvX x0 ((x2.1,x2.2.1,x2.2.2.1,x2.2.2.2.1,x2.2.2.2.2.1,x2.2.2.2.2.2.1,()) : Int × Int × Int × Int × Int × Int × Unit)).1 (Int.toNat d3.2.1) 0
noncomputable def g18_c11 (x0:Int) (x2 : Int × Int × Int × Int × Int × Int × Unit) (d3 : Bool × Int × Unit) : Int:=List.getD (crvX x0 ((x2.1,x2.2.1,x2.2.2.1,x2.2.2.2.1,x2.2.2.2.2.1,x2.2.2.2.2.2.1,()) : Int × Int × Int × Int × Int × Int × Unit)).1 (Int.toNat d3.2.1) 0
noncomputable def g18 (x0:Int) (x1:List Int) (x2 : Int × Int × Int × Int × Int × Int × Unit) : Option (Bool × Unit):=bif !isPb x0 then gd (small (List.take 60 x1)) (gd (ieq (growX x0 (List.take 60 x1)).2.1 2 = true → ieq (growX x0 (List.take 60 x1)).2.1 2 = true) (some ((bif ieq (growX x0 (List.take 60 x1)).2.1 2 then true else false,()) : Bool × Unit))) else gd (small (List.take 60 x1)) (gd (ieq (growX x0 (List.take 60 x1)).2.1 0 = true → ieq (growX x0 (List.take 60 x1)).2.1 0 = true) (gd (ieq (growX x0 (List.take 60 x1)).2.1 0 = true → ieq (growX x0 (List.take 60 x1)).2.1 0 = true) (gd ((bif ieq (growX x0 (List.take 60 x1)).2.1 0 then ilt 4 x0 else false) = true → (bif ieq (growX x0 (List.take 60 x1)).2.1 0 then ilt 4 x0 else false) = true) (gd ((bif ieq (growX x0 (List.take 60 x1)).2.1 0 then ilt 4 x0 else false) = true → (bif ieq (growX x0 (List.take 60 x1)).2.1 0 then ilt 4 x0 else false) = true) (gd ((bif ieq (growX x0 (List.take 60 x1)).2.1 0 then ilt 4 x0 else false) = true → (bif ieq (growX x0 (List.take 60 x1)).2.1 0 then ilt 4 x0 else false) = true ∧ (bif ieq (growX x0 (List.take 60 x1)).2.1 0 then ilt 4 x0 else false) = true) (gd ((bif ieq (growX x0 (List.take 60 x1)).2.1 0 then ilt 4 x0 else false) = true → (bif ieq (growX x0 (List.take 60 x1)).2.1 0 then ilt 4 x0 else false) = true) (bif g18_c0 x0 x1 then gd ((0:Int) ≤ 5 ∧ 5 ≤ (↑(List.length (growX x0 (List.take 60 x1)).1):Int)) (gd (List.length (List.take 5 (growX x0 (List.take 60 x1)).1) ≤ 100000) (gd (small (List.take 5 (growX x0 (List.take 60 x1)).1)) (gd ((6:Nat) ≤ 6) (gd ((6:Nat) ≤ 6) (gd ((!!ieq (thrX x0 (List.take 5 (growX x0 (List.take 60 x1)).1)).2.1 0) = true → (!!ieq (thrX x0 (List.take 5 (growX x0 (List.take 60 x1)).1)).2.1 0) = true) (gd ((!ieq (thrX x0 (List.take 5 (growX x0 (List.take 60 x1)).1)).2.1 0) = false → (!!ieq (thrX x0 (List.take 5 (growX x0 (List.take 60 x1)).1)).2.1 0) = true) (gd ((!bif !ieq (thrX x0 (List.take 5 (growX x0 (List.take 60 x1)).1)).2.1 0 then true else !ieq (g18_c1 x0 x1) 0) = true → (!bif !ieq (thrX x0 (List.take 5 (growX x0 (List.take 60 x1)).1)).2.1 0 then true else !ieq (g18_c1 x0 x1) 0) = true ∧ (!bif !ieq (thrX x0 (List.take 5 (growX x0 (List.take 60 x1)).1)).2.1 0 then true else !ieq (g18_c1 x0 x1) 0) = true ∧ small (crvX x0 (((thrX x0 (List.take 5 (growX x0 (List.take 60 x1)).1)).1.1,(thrX x0 (List.take 5 (growX x0 (List.take 60 x1)).1)).1.2.1,(thrX x0 (List.take 5 (growX x0 (List.take 60 x1)).1)).1.2.2.1,(thrX x0 (List.take 5 (growX x0 (List.take 60 x1)).1)).1.2.2.2.1,(thrX x0 (List.take 5 (growX x0 (List.take 60 x1)).1)).1.2.2.2.2.1,(thrX x0 (List.take 5 (growX x0 (List.take 60 x1)).1)).1.2.2.2.2.2.1,()) : Int × Int × Int × Int × Int × Int × Unit)).1 ∧ small (growX x0 (List.take 60 x1)).1) (gd ((!bif !ieq (thrX x0 (List.take 5 (growX x0 (List.take 60 x1)).1)).2.1 0 then true else !ieq (g18_c1 x0 x1) 0) = true → (!bif !ieq (thrX x0 (List.take 5 (growX x0 (List.take 60 x1)).1)).2.1 0 then true else !ieq (g18_c1 x0 x1) 0) = true) (gd ((bif !ieq (thrX x0 (List.take 5 (growX x0 (List.take 60 x1)).1)).2.1 0 then true else !ieq (g18_c1 x0 x1) 0) = false → (!bif !ieq (thrX x0 (List.take 5 (growX x0 (List.take 60 x1)).1)).2.1 0 then true else !ieq (g18_c1 x0 x1) 0) = true) (bif g18_c3 x0 x1 then some ((false,()) : Bool × Unit) else gd ((6:Nat) ≤ 6) (gd ((!!ieq (g18_c4 x0 x2) 0) = true → (!!ieq (g18_c4 x0 x2) 0) = true) (gd ((!ieq (g18_c4 x0 x2) 0) = false → (!!ieq (g18_c4 x0 x2) 0) = true) (gd ((!bif !ieq (g18_c4 x0 x2) 0 then true else ieq x0 2) = true → (!bif !ieq (g18_c4 x0 x2) 0 then true else ieq x0 2) = true) (gd ((!bif !ieq (g18_c4 x0 x2) 0 then true else ieq x0 2) = true → (!bif !ieq (g18_c4 x0 x2) 0 then true else ieq x0 2) = true) (gd ((!bif !ieq (g18_c4 x0 x2) 0 then true else ieq x0 2) = true → (!bif !ieq (g18_c4 x0 x2) 0 then true else ieq x0 2) = true ∧ (!bif !ieq (g18_c4 x0 x2) 0 then true else ieq x0 2) = true) (gd ((bif !ieq (g18_c4 x0 x2) 0 then true else ieq x0 2) = false → (!bif !ieq (g18_c4 x0 x2) 0 then true else ieq x0 2) = true) (bif bif bif !ieq (g18_c4 x0 x2) 0 then true else ieq x0 2 then true else !ieq (g18_c5 x0 x2) (wr .i64 (x0 + 1)) then gd ((!ieq (g18_c4 x0 x2) 0) = true → (!ieq (g18_c4 x0 x2) 0) = true) (gd (ieq (g18_c4 x0 x2) 0 = false → (!ieq (g18_c4 x0 x2) 0) = true) (gd ((bif ieq (g18_c4 x0 x2) 0 then true else ieq (g18_c4 x0 x2) 2) = true → (bif ieq (g18_c4 x0 x2) 0 then true else ieq (g18_c4 x0 x2) 2) = true) (some ((bif bif ieq (g18_c4 x0 x2) 0 then true else ieq (g18_c4 x0 x2) 2 then true else false,()) : Bool × Unit)))) else gd (List.length (crvX x0 ((x2.1,x2.2.1,x2.2.2.1,x2.2.2.2.1,x2.2.2.2.2.1,x2.2.2.2.2.2.1,()) : Int × Int × Int × Int × Int × Int × Unit)).1 ≤ 100000) (gd (small (crvX x0 ((x2.1,x2.2.1,x2.2.2.1,x2.2.2.2.1,x2.2.2.2.2.1,x2.2.2.2.2.2.1,()) : Int × Int × Int × Int × Int × Int × Unit)).1) (gd ((0:Int) ≤ 0 ∧ 0 < (↑(List.length (crvX x0 ((x2.1,x2.2.1,x2.2.2.1,x2.2.2.2.1,x2.2.2.2.2.1,x2.2.2.2.2.2.1,()) : Int × Int × Int × Int × Int × Int × Unit)).1):Int)) (gd ((0:Int) ≤ 1 ∧ 1 < (↑(List.length (crvX x0 ((x2.1,x2.2.1,x2.2.2.1,x2.2.2.2.1,x2.2.2.2.2.1,x2.2.2.2.2.2.1,()) : Int × Int × Int × Int × Int × Int × Unit)).1):Int)) (whileO (fun (d3 : Bool × Int × Unit)=>bif ilt d3.2.1 (g18_c5 x0 x2) then gd (0 ≤ d3.2.1 ∧ d3.2.1 < (↑(List.length (crvX x0 ((x2.1,x2.2.1,x2.2.2.1,x2.2.2.2.1,x2.2.2.2.2.1,x2.2.2.2.2.2.1,()) : Int × Int × Int × Int × Int × Int × Unit)).1):Int)) (gd (d3.1 = true → d3.1 = true) (gd ((bif d3.1 then (onFF x0 (g18_c10 x0 x2 d3) (joinF x0 (g18_c8 x0 x2) (g18_c9 x0 x2)).1).1 else false) = true → (bif d3.1 then (onFF x0 (g18_c10 x0 x2 d3) (joinF x0 (g18_c8 x0 x2) (g18_c9 x0 x2)).1).1 else false) = true) (gd ((bif d3.1 then (onFF x0 (g18_c10 x0 x2 d3) (joinF x0 (g18_c8 x0 x2) (g18_c9 x0 x2)).1).1 else false) = true → (bif d3.1 then (onFF x0 (g18_c10 x0 x2 d3) (joinF x0 (g18_c8 x0 x2) (g18_c9 x0 x2)).1).1 else false) = true) (some (Lp.go ((bif bif d3.1 then (onFF x0 (g18_c10 x0 x2 d3) (joinF x0 (g18_c8 x0 x2) (g18_c9 x0 x2)).1).1 else false then ieq (onFF x0 (g18_c10 x0 x2 d3) (joinF x0 (g18_c8 x0 x2) (g18_c9 x0 x2)).1).2.1 0 else false,wr .i64 (d3.2.1 + 1),()) : Bool × Int × Unit)))))) else gd (ieq (g18_c7 x0 x2) 0 = true → ieq (g18_c7 x0 x2) 0 = true) (gd (ieq (g18_c7 x0 x2) 0 = true → ieq (g18_c7 x0 x2) 0 = true) (gd ((bif ieq (g18_c7 x0 x2) 0 then ieq (joinF x0 (g18_c8 x0 x2) (g18_c9 x0 x2)).2.1 0 else false) = true → (bif ieq (g18_c7 x0 x2) 0 then ieq (joinF x0 (g18_c8 x0 x2) (g18_c9 x0 x2)).2.1 0 else false) = true ∧ (bif ieq (g18_c7 x0 x2) 0 then ieq (joinF x0 (g18_c8 x0 x2) (g18_c9 x0 x2)).2.1 0 else false) = true) (gd ((bif ieq (g18_c7 x0 x2) 0 then ieq (joinF x0 (g18_c8 x0 x2) (g18_c9 x0 x2)).2.1 0 else false) = true → (bif ieq (g18_c7 x0 x2) 0 then ieq (joinF x0 (g18_c8 x0 x2) (g18_c9 x0 x2)).2.1 0 else false) = true) (gd ((bif bif ieq (g18_c7 x0 x2) 0 then ieq (joinF x0 (g18_c8 x0 x2) (g18_c9 x0 x2)).2.1 0 else false then !beqB (g18_c6 x0 x2) d3.1 else false) = true → (bif bif ieq (g18_c7 x0 x2) 0 then ieq (joinF x0 (g18_c8 x0 x2) (g18_c9 x0 x2)).2.1 0 else false then !beqB (g18_c6 x0 x2) d3.1 else false) = true) (some (Lp.out ((bif bif bif ieq (g18_c7 x0 x2) 0 then ieq (joinF x0 (g18_c8 x0 x2) (g18_c9 x0 x2)).2.1 0 else false then !beqB (g18_c6 x0 x2) d3.1 else false then true else false,()) : Bool × Unit)))))))) ((true,0,()) : Bool × Int × Unit)))))))))))))))))))))) else gd ((6:Nat) ≤ 6) (gd ((!!ieq (g18_c4 x0 x2) 0) = true → (!!ieq (g18_c4 x0 x2) 0) = true) (gd ((!ieq (g18_c4 x0 x2) 0) = false → (!!ieq (g18_c4 x0 x2) 0) = true) (gd ((!bif !ieq (g18_c4 x0 x2) 0 then true else ieq x0 2) = true → (!bif !ieq (g18_c4 x0 x2) 0 then true else ieq x0 2) = true) (gd ((!bif !ieq (g18_c4 x0 x2) 0 then true else ieq x0 2) = true → (!bif !ieq (g18_c4 x0 x2) 0 then true else ieq x0 2) = true) (gd ((!bif !ieq (g18_c4 x0 x2) 0 then true else ieq x0 2) = true → (!bif !ieq (g18_c4 x0 x2) 0 then true else ieq x0 2) = true ∧ (!bif !ieq (g18_c4 x0 x2) 0 then true else ieq x0 2) = true) (gd ((bif !ieq (g18_c4 x0 x2) 0 then true else ieq x0 2) = false → (!bif !ieq (g18_c4 x0 x2) 0 then true else ieq x0 2) = true) (bif bif bif !ieq (g18_c4 x0 x2) 0 then true else ieq x0 2 then true else !ieq (g18_c5 x0 x2) (wr .i64 (x0 + 1)) then gd ((!ieq (g18_c4 x0 x2) 0) = true → (!ieq (g18_c4 x0 x2) 0) = true) (gd (ieq (g18_c4 x0 x2) 0 = false → (!ieq (g18_c4 x0 x2) 0) = true) (gd ((bif ieq (g18_c4 x0 x2) 0 then true else ieq (g18_c4 x0 x2) 2) = true → (bif ieq (g18_c4 x0 x2) 0 then true else ieq (g18_c4 x0 x2) 2) = true) (some ((bif bif ieq (g18_c4 x0 x2) 0 then true else ieq (g18_c4 x0 x2) 2 then true else false,()) : Bool × Unit)))) else gd (List.length (crvX x0 ((x2.1,x2.2.1,x2.2.2.1,x2.2.2.2.1,x2.2.2.2.2.1,x2.2.2.2.2.2.1,()) : Int × Int × Int × Int × Int × Int × Unit)).1 ≤ 100000) (gd (small (crvX x0 ((x2.1,x2.2.1,x2.2.2.1,x2.2.2.2.1,x2.2.2.2.2.1,x2.2.2.2.2.2.1,()) : Int × Int × Int × Int × Int × Int × Unit)).1) (gd ((0:Int) ≤ 0 ∧ 0 < (↑(List.length (crvX x0 ((x2.1,x2.2.1,x2.2.2.1,x2.2.2.2.1,x2.2.2.2.2.1,x2.2.2.2.2.2.1,()) : Int × Int × Int × Int × Int × Int × Unit)).1):Int)) (gd ((0:Int) ≤ 1 ∧ 1 < (↑(List.length (crvX x0 ((x2.1,x2.2.1,x2.2.2.1,x2.2.2.2.1,x2.2.2.2.2.1,x2.2.2.2.2.2.1,()) : Int × Int × Int × Int × Int × Int × Unit)).1):Int)) (whileO (fun (d3 : Bool × Int × Unit)=>bif ilt d3.2.1 (g18_c5 x0 x2) then gd (0 ≤ d3.2.1 ∧ d3.2.1 < (↑(List.length (crvX x0 ((x2.1,x2.2.1,x2.2.2.1,x2.2.2.2.1,x2.2.2.2.2.1,x2.2.2.2.2.2.1,()) : Int × Int × Int × Int × Int × Int × Unit)).1):Int)) (gd (d3.1 = true → d3.1 = true) (gd ((bif d3.1 then (onFF x0 (g18_c11 x0 x2 d3) (joinF x0 (g18_c8 x0 x2) (g18_c9 x0 x2)).1).1 else false) = true → (bif d3.1 then (onFF x0 (g18_c11 x0 x2 d3) (joinF x0 (g18_c8 x0 x2) (g18_c9 x0 x2)).1).1 else false) = true) (gd ((bif d3.1 then (onFF x0 (g18_c11 x0 x2 d3) (joinF x0 (g18_c8 x0 x2) (g18_c9 x0 x2)).1).1 else false) = true → (bif d3.1 then (onFF x0 (g18_c11 x0 x2 d3) (joinF x0 (g18_c8 x0 x2) (g18_c9 x0 x2)).1).1 else false) = true) (some (Lp.go ((bif bif d3.1 then (onFF x0 (g18_c11 x0 x2 d3) (joinF x0 (g18_c8 x0 x2) (g18_c9 x0 x2)).1).1 else false then ieq (onFF x0 (g18_c11 x0 x2 d3) (joinF x0 (g18_c8 x0 x2) (g18_c9 x0 x2)).1).2.1 0 else false,wr .i64 (d3.2.1 + 1),()) : Bool × Int × Unit)))))) else gd (ieq (g18_c7 x0 x2) 0 = true → ieq (g18_c7 x0 x2) 0 = true) (gd (ieq (g18_c7 x0 x2) 0 = true → ieq (g18_c7 x0 x2) 0 = true) (gd ((bif ieq (g18_c7 x0 x2) 0 then ieq (joinF x0 (g18_c8 x0 x2) (g18_c9 x0 x2)).2.1 0 else false) = true → (bif ieq (g18_c7 x0 x2) 0 then ieq (joinF x0 (g18_c8 x0 x2) (g18_c9 x0 x2)).2.1 0 else false) = true ∧ (bif ieq (g18_c7 x0 x2) 0 then ieq (joinF x0 (g18_c8 x0 x2) (g18_c9 x0 x2)).2.1 0 else false) = true) (gd ((bif ieq (g18_c7 x0 x2) 0 then ieq (joinF x0 (g18_c8 x0 x2) (g18_c9 x0 x2)).2.1 0 else false) = true → (bif ieq (g18_c7 x0 x2) 0 then ieq (joinF x0 (g18_c8 x0 x2) (g18_c9 x0 x2)).2.1 0 else false) = true) (gd ((bif bif ieq (g18_c7 x0 x2) 0 then ieq (joinF x0 (g18_c8 x0 x2) (g18_c9 x0 x2)).2.1 0 else false then !beqB (g18_c6 x0 x2) d3.1 else false) = true → (bif bif ieq (g18_c7 x0 x2) 0 then ieq (joinF x0 (g18_c8 x0 x2) (g18_c9 x0 x2)).2.1 0 else false then !beqB (g18_c6 x0 x2) d3.1 else false) = true) (some (Lp.out ((bif bif bif ieq (g18_c7 x0 x2) 0 then ieq (joinF x0 (g18_c8 x0 x2) (g18_c9 x0 x2)).2.1 0 else false then !beqB (g18_c6 x0 x2) d3.1 else false then true else false,()) : Bool × Unit)))))))) ((true,0,()) : Bool × Int × Unit)))))))))))))))))))
noncomputable def g18_sh : List LSh:=LSh.mk (((20,TV.v Ty.bool) : Nat × TV) :: ((134,TV.v (Ty.int IntKind.i64)) : Nat × TV) :: ([] : List (Nat × TV))) ([] : List TB) :: ([] : List LSh)
end Go.Arcs
