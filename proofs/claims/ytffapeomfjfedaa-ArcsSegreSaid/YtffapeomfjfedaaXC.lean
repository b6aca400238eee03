/- The cross ratio: contracts. -/
import Derived.Test.YtffapeomfjfedaaXB
set_option linter.unusedVariables false
set_option linter.unusedSimpArgs false
namespace Go.Arcs
open Go Go.Ab Go.Proofs
def strF (p a b c:Int) : Bool:=ieq (dotC p (crossF p (pt p a) (pt p b)) (pt p c)) 0
noncomputable def con71 : Con:=mkC 71 [.d (.ptr Plane),.d I64,.d I64,.d I64] [.bool] (fun (k : PlaneD) (a b c:Int)=>[isPl k,inPt k.1 a = true,inPt k.1 b = true,inPt k.1 c = true]) (fun (k : PlaneD) (a b c:Int)=>(strF k.1 a b c,()))
noncomputable def g71 (x0 : Int × List (Int × Int × Int × Unit) × List ((Int × Int × Int × Unit) × Int) × Unit) (x1 x2 x3:Int) : Option (Bool × Unit):=gd (0 ≤ x1 ∧ x1 < (↑(List.length x0.2.1):Int)) (gd (0 ≤ x2 ∧ x2 < (↑(List.length x0.2.1):Int)) (gd (isP x0.1) (gd (inR x0.1 (List.getD x0.2.1 (Int.toNat x1) ((0,0,0,()) : Int × Int × Int × Unit))) (gd (inR x0.1 (List.getD x0.2.1 (Int.toNat x2) ((0,0,0,()) : Int × Int × Int × Unit))) (gd (0 ≤ x3 ∧ x3 < (↑(List.length x0.2.1):Int)) (gd (isP x0.1) (gd (inR x0.1 (crossF x0.1 (List.getD x0.2.1 (Int.toNat x1) ((0,0,0,()) : Int × Int × Int × Unit)) (List.getD x0.2.1 (Int.toNat x2) ((0,0,0,()) : Int × Int × Int × Unit)))) (gd (inR x0.1 (List.getD x0.2.1 (Int.toNat x3) ((0,0,0,()) : Int × Int × Int × Unit))) (some ((ieq (dotC x0.1 (crossF x0.1 (List.getD x0.2.1 (Int.toNat x1) ((0,0,0,()) : Int × Int × Int × Unit)) (List.getD x0.2.1 (Int.toNat x2) ((0,0,0,()) : Int × Int × Int × Unit))) (List.getD x0.2.1 (Int.toNat x3) ((0,0,0,()) : Int × Int × Int × Unit))) 0,()) : Bool × Unit))))))))))
noncomputable def g71_sh : List LSh:=([] : List LSh)
def cmb (p:Int) (a b : TripD) (u v:Int) : TripD:=((u * a.1 + v * b.1) % p,(u * a.2.1 + v * b.2.1) % p,(u * a.2.2.1 + v * b.2.2.1) % p,())
def findI {X : Type} (q : Int → Option X) : Nat → Int → Option X
 | 0,_=>none
 | n + 1,i=>match q i with
  | some x=>some x
  | none=>findI q n (i + 1)
def partsO (p:Int) (a b c : TripD) : Option (Int × Int):=findI (fun u=>findI (fun v=>if deqT (cmb p a b u v) c = true then some (u,v) else none) p.toNat 0) p.toNat 0
def partsF (p:Int) (a b c : TripD) : Int × Int:=(partsO p a b c).getD (0,0)
noncomputable def conInv2 : Con:=mkC 74 [.d (.ptr Plane),.d I64] [I64] (fun (k : PlaneD) (n:Int)=>[isP k.1,n % k.1 ≠ 0,-1000 ≤ n ∧ n ≤ 1000]) (fun (k : PlaneD) (n:Int)=>(invF k.1 (n % k.1),()))
theorem goal71 : con71.goal Try.prog (spOf [conCross,conDotC]) g71_sh [] lm30:=by
 have e : (∀ (k : PlaneD) (a b c:Int),isPl k → inPt k.1 a = true → inPt k.1 b = true → inPt k.1 c = true → g71 k a b c = some (strF k.1 a b c,())) = con71.goal Try.prog (spOf [conCross,conDotC]) g71_sh [] lm30:=by kernel_rfl
 rw [← e]
 intro k a b c hk ha hb hc
 have hpts:=pl_pts hk
 have h1:=inPt_iff.1 ha
 have h2:=inPt_iff.1 hb
 have h3:=inPt_iff.1 hc
 have hl:=pts_len k.1 (isP_mem hk.1)
 have ea : List.getD (ptsC k.1) a.toNat (0,0,0,()) = pt k.1 a:=rfl
 have eb : List.getD (ptsC k.1) b.toNat (0,0,0,()) = pt k.1 b:=rfl
 have ec : List.getD (ptsC k.1) c.toNat (0,0,0,()) = pt k.1 c:=rfl
 unfold g71
 rw [hpts,ea,eb,ec,gd_pos (by omega),gd_pos (by omega),gd_pos hk.1,gd_pos (pt_in hk.1 ha),gd_pos (pt_in hk.1 hb),gd_pos (by omega),gd_pos hk.1,gd_pos (cross_in hk.1),gd_pos (pt_in hk.1 hc)]
 rfl
set_option maxRecDepth 100000 in
theorem ok71 : con71.Ok Try.prog:=Con.of_goal mixed (okC okCross (okC okDotC okN)) con71 goal71
end Go.Arcs
namespace Go.Arcs
open Go Go.Ab Go.Proofs
theorem w1 : wr .i64 1 = 1:=by decide
theorem w2 : wr .i64 2 = 2:=by decide
theorem w3 : wr .i64 3 = 3:=by decide
theorem w4 : wr .i64 4 = 4:=by decide
def pick {X Y : Type} (o : Option Y) (f : Y → X) (e : X) : X:=match o with
 | some r=>f r
 | none=>e
def qv (p:Int) (a b c : TripD) (u v:Int) : Option (Int × Int):=if deqT (cmb p a b u v) c = true then some (u,v) else none
def qu (p:Int) (a b c : TripD) (u:Int) : Option (Int × Int):=findI (qv p a b c u) p.toNat 0
theorem partsO_eq {p : Int} {a b c : TripD} : partsO p a b c = findI (qu p a b c) p.toNat 0:=rfl
end Go.Arcs
namespace Go.Arcs
open Go Go.Ab Go.Proofs
theorem goalInv2 : conInv2.goal Try.prog (spOf [conMod]) g74_sh [] lm30:=by
 have e : (∀ (k : PlaneD) (n:Int),isP k.1 → n % k.1 ≠ 0 → (-1000 ≤ n ∧ n ≤ 1000) → g74 k n = some (invF k.1 (n % k.1),())) = conInv2.goal Try.prog (spOf [conMod]) g74_sh [] lm30:=by kernel_rfl
 rw [← e]
 intro k n hp hn hb
 have h2:=isP_bd hp
 have hr : rngP k.1 (n % k.1):=by
  have:=Int.emod_nonneg n (show k.1 ≠ 0 by omega)
  have:=Int.emod_lt_of_pos n (show 0 < k.1 by omega)
  have:=Int.emod_eq_of_lt (a:=n % k.1) (b:=k.1) (by omega) (by omega)
  unfold rngP
  omega
 obtain ⟨g1,g2,g3⟩:=inv_spec hp hr
 have g4 : ∀ x,1 ≤ x → x ≤ invF k.1 (n % k.1) → ieq (modF k.1 (wr .i64 (x * n))) 1 = ieq x (invF k.1 (n % k.1)):=by
  intro x h1 hx
  rw [← g3 x h1 hx,modF_eq (by omega),modF_eq (by omega)]
  have b1 : -6000 ≤ x * n ∧ x * n ≤ 6000:=by
   have : x = 1 ∨ x = 2 ∨ x = 3 ∨ x = 4 ∨ x = 5 ∨ x = 6:=by omega
   rcases this with rfl | rfl | rfl | rfl | rfl | rfl <;> omega
  have b2:=mul_bd (c:=7) (a:=x) (b:=n % k.1) (by omega) ⟨Int.emod_nonneg n (by omega),by have:=Int.emod_lt_of_pos n (show 0 < k.1 by omega);omega⟩
  rw [wr_id (by omega),wr_id (by omega)]
  have : x * (n % k.1) % k.1 = x * n % k.1:=by simp [Int.mul_emod]
  rw [this]
 unfold g74
 refine whileO_rec (fun (d : Int × Unit)=>1 ≤ d.1 ∧ d.1 ≤ invF k.1 (n % k.1)) (fun (d : Int × Unit)=>(invF k.1 (n % k.1) - d.1).toNat) (fun (d : Int × Unit)=>(invF k.1 (n % k.1),())) ?_ ((1:Int),()) ⟨by omega,by simp only;omega⟩
 rintro ⟨i,_⟩ ⟨h0,h1⟩
 simp only at h0 h1 ⊢
 rw [gd_pos (by omega),g4 i h0 h1]
 by_cases he : i = invF k.1 (n % k.1)
 ·left
  rw [cond_f (by simp [ieq,he]),he]
 ·right
  refine ⟨_,by rw [cond_t (by simp [ieq,he]),wr_id (by omega)],⟨by simp only;omega,by simp only;omega⟩,by simp only;omega,by trivial⟩
set_option maxRecDepth 100000 in
theorem okInv2 : conInv2.Ok Try.prog:=Con.of_goal mixed (okC okMod okN) conInv2 goalInv2
theorem sub0 {s z p : Int} (hz : 0 ≤ z ∧ z < p) : (s - z) % p = 0 ↔ s % p = z:=by
 rw [← Int.emod_eq_emod_iff_emod_sub_eq_zero,Int.emod_eq_of_lt hz.1 hz.2]
def qx (p u v s t:Int) (x:Int) : Option Int:=if (x * v * s - u * t) % p = 0 then some x else none
theorem findI_mem {X : Type} {q : Int → Option X} {P : X → Prop} (h : ∀ i x,q i = some x → P x) : ∀ {n : Nat} {i : Int} {x : X},findI q n i = some x → P x
 | 0,_,_,e=>by cases e
 | n + 1,i,x,e=>by
  rw [findI] at e
  cases hq : q i with
  | some y=>rw [hq] at e;cases e;exact h _ _ hq
  | none=>rw [hq] at e;exact findI_mem h e
theorem findI_rng {X : Type} {q : Int → Option X} {P : X → Prop} {p : Int} : ∀ {n : Nat} {i : Int},0 ≤ i → i + n ≤ p → (∀ j x,0 ≤ j → j < p → q j = some x → P x) → ∀ {x : X},findI q n i = some x → P x
 | 0,_,_,_,_,_,e=>by cases e
 | n + 1,i,h0,h1,h,x,e=>by
  rw [findI] at e
  cases hq : q i with
  | some y=>rw [hq] at e;cases e;exact h _ _ h0 (by omega) hq
  | none=>rw [hq] at e;exact findI_rng (by omega) (by omega) h e
theorem parts_rng {p : Int} (hp : isP p) {a b c : TripD} : (0 ≤ (partsF p a b c).1 ∧ (partsF p a b c).1 < p) ∧ (0 ≤ (partsF p a b c).2 ∧ (partsF p a b c).2 < p):=by
 have hbd:=isP_bd hp
 unfold partsF
 rw [partsO_eq]
 cases h : findI (qu p a b c) p.toNat 0 with
 | none=>exact ⟨⟨Int.le_refl _,by show (0:Int) < p;omega⟩,⟨Int.le_refl _,by show (0:Int) < p;omega⟩⟩
 | some r =>
  refine findI_rng (p:=p) (Int.le_refl _) (by omega) (P:=fun r : Int × Int=>(0 ≤ r.1 ∧ r.1 < p) ∧ (0 ≤ r.2 ∧ r.2 < p)) ?_ h
  intro u x hu0 hu1 hx
  refine findI_rng (p:=p) (Int.le_refl _) (by omega) (P:=fun r : Int × Int=>(0 ≤ r.1 ∧ r.1 < p) ∧ (0 ≤ r.2 ∧ r.2 < p)) ?_ hx
  intro v y hv0 hv1 hy
  unfold qv at hy
  split at hy
  ·cases hy;exact ⟨⟨hu0,hu1⟩,⟨hv0,hv1⟩⟩
  ·cases hy
end Go.Arcs
namespace Go.Arcs
open Go Go.Ab Go.Proofs
end Go.Arcs
namespace Go.Arcs
open Go Go.Ab Go.Proofs
theorem cross_tab : ∀ p ∈ ([2,3,5,7]:List Int),∀ x ∈ ptsC p,∀ y ∈ ptsC p,(deqT x y || !deqT (crossF p x y) (0,0,0,())) = true:=by decide +kernel
theorem mul_tab : ∀ p ∈ ([2,3,5,7]:List Int),∀ x ∈ ptsC p,∀ y ∈ ptsC p,∀ k ∈ List.range p.toNat,(!deqT (mulT p k x) y || deqT x y) = true:=by decide +kernel
theorem low_tab : ∀ p ∈ ([2,3,5,7]:List Int),∀ a ∈ List.range p.toNat,∀ b ∈ List.range p.toNat,∀ c ∈ List.range p.toNat,
  (deqT ((a:Int),(b:Int),(c:Int),()) (0,0,0,()) || deqT (pt p (numC p (lowF p ((a:Int),(b:Int),(c:Int),())))) (lowF p ((a:Int),(b:Int),(c:Int),()))) = true:=by decide +kernel
theorem dot_tab : ∀ p ∈ ([2,3,5,7]:List Int),∀ a ∈ List.range p.toNat,∀ b ∈ List.range p.toNat,∀ c ∈ List.range p.toNat,∀ y ∈ ptsC p,
  (ieq (dotC p ((a:Int),(b:Int),(c:Int),()) y) 0 == ieq (dotC p y (lowF p ((a:Int),(b:Int),(c:Int),()))) 0) = true:=by decide +kernel
theorem inv_tab : ∀ p ∈ ([2,3,5,7]:List Int),∀ a ∈ List.range p.toNat,(ieq a 0 || ieq (invF p a * a % p) 1) = true:=by decide +kernel
theorem comb_ex {p w a1 a2 a3 b1 b2 b3 c1 c2 c3 : Int} (hp : 0 < p) (k : p ∣ w * (a1 * b2 - a2 * b1) - 1)
  (h : p ∣ c1 * (a2 * b3 - a3 * b2) + c2 * (a3 * b1 - a1 * b3) + c3 * (a1 * b2 - a2 * b1)) :
  ∃ u v : Int,(0 ≤ u ∧ u < p) ∧ (0 ≤ v ∧ v < p) ∧ p ∣ u * a1 + v * b1 - c1 ∧ p ∣ u * a2 + v * b2 - c2 ∧ p ∣ u * a3 + v * b3 - c3:=by
 obtain ⟨m,hm⟩:=k
 obtain ⟨n,hn⟩:=h
 have e1:=Int.emod_add_mul_ediv (w * (c1 * b2 - c2 * b1)) p
 have e2:=Int.emod_add_mul_ediv (w * (a1 * c2 - a2 * c1)) p
 refine ⟨(w * (c1 * b2 - c2 * b1)) % p,(w * (a1 * c2 - a2 * c1)) % p,⟨Int.emod_nonneg _ (by omega),Int.emod_lt_of_pos _ hp⟩,⟨Int.emod_nonneg _ (by omega),Int.emod_lt_of_pos _ hp⟩,?_,?_,?_⟩
 all_goals
  revert e1 e2
  generalize (w * (c1 * b2 - c2 * b1)) % p = u
  generalize (w * (a1 * c2 - a2 * c1)) % p = v
  generalize (w * (c1 * b2 - c2 * b1)) / p = q1
  generalize (w * (a1 * c2 - a2 * c1)) / p = q2
  intro e1 e2
 ·exact ⟨c1 * m - q1 * a1 - q2 * b1,by grind⟩
 ·exact ⟨c2 * m - q1 * a2 - q2 * b2,by grind⟩
 ·exact ⟨c3 * m - w * n - q1 * a3 - q2 * b3,by grind⟩
end Go.Arcs
namespace Go.Arcs
open Go Go.Ab Go.Proofs
theorem findI_none {X : Type} {q : Int → Option X} : ∀ {n : Nat} {i : Int},findI q n i = none → ∀ j,i ≤ j → j < i + n → q j = none
 | 0,i,_,j,h1,h2=>by omega
 | n + 1,i,e,j,h1,h2=>by
  rw [findI] at e
  cases hq : q i with
  | some y=>rw [hq] at e;cases e
  | none =>
   rw [hq] at e
   by_cases hj : j = i
   ·rw [hj];exact hq
   ·exact findI_none (n:=n) (i:=i + 1) e j (by omega) (by omega)
theorem rng_mem {p a : Int} (h : 0 ≤ a ∧ a < p) : a.toNat ∈ List.range p.toNat:=List.mem_range.2 (by omega)
theorem emod_of_dvd {p s c : Int} (hc : 0 ≤ c ∧ c < p) (h : p ∣ s - c) : s % p = c:=by
 rw [← sub0 hc]
 exact Int.emod_eq_zero_of_dvd h
theorem inv_ex {p n : Int} (hp : isP p) (hn : n % p ≠ 0) : ∃ w,p ∣ w * n - 1:=by
 have hb:=isP_bd hp
 have h0:=Int.emod_nonneg n (show p ≠ 0 by omega)
 have h1:=Int.emod_lt_of_pos n (show 0 < p by omega)
 have h:=inv_tab p (isP_mem hp) _ (rng_mem ⟨h0,h1⟩)
 rw [Int.toNat_of_nonneg h0,Bool.or_eq_true,ieq_iff,ieq_iff] at h
 rcases h with h | h
 ·exact absurd h hn
 ·refine ⟨invF p (n % p),?_⟩
  rw [Int.mul_emod,Int.emod_emod_of_dvd n (Int.dvd_refl p),← Int.mul_emod] at h
  have : (invF p (n % p) * n - 1) % p = 0:=by
   rw [← Int.emod_eq_emod_iff_emod_sub_eq_zero,h]
   exact (Int.emod_eq_of_lt (by omega) (by omega)).symm
  exact Int.dvd_of_emod_eq_zero this
theorem comb_all {p a1 a2 a3 b1 b2 b3 c1 c2 c3 : Int} (hp : isP p) (hn : crossF p (a1, a2, a3, ()) (b1, b2, b3, ()) ≠ (0, 0, 0, ()))
    (hd : dotC p (crossF p (a1,a2,a3,()) (b1,b2,b3,())) (c1,c2,c3,()) = 0) :
    ∃ u v : Int,(0 ≤ u ∧ u < p) ∧ (0 ≤ v ∧ v < p) ∧ p ∣ u * a1 + v * b1 - c1 ∧ p ∣ u * a2 + v * b2 - c2 ∧ p ∣ u * a3 + v * b3 - c3:=by
  have hb:=isP_bd hp
  simp only [dotC,crossF] at hd
  have h : p ∣ c1 * (a2 * b3 - a3 * b2) + c2 * (a3 * b1 - a1 * b3) + c3 * (a1 * b2 - a2 * b1):=by
    obtain ⟨n,hn⟩:=Int.dvd_of_emod_eq_zero hd
    have e1:=Int.emod_add_mul_ediv (a2 * b3 - a3 * b2) p
    have e2:=Int.emod_add_mul_ediv (a3 * b1 - a1 * b3) p
    have e3:=Int.emod_add_mul_ediv (a1 * b2 - a2 * b1) p
    exact ⟨n + c1 * ((a2 * b3 - a3 * b2) / p) + c2 * ((a3 * b1 - a1 * b3) / p) + c3 * ((a1 * b2 - a2 * b1) / p),by grind⟩
  by_cases k3 : (a1 * b2 - a2 * b1) % p = 0
  · by_cases k2 : (a3 * b1 - a1 * b3) % p = 0
    · by_cases k1 : (a2 * b3 - a3 * b2) % p = 0
      · exact absurd (by simp only [crossF,k1,k2,k3]) hn
      · obtain ⟨w,hw⟩:=inv_ex hp k1
        obtain ⟨u,v,q1,q2,q3,q4,q5⟩:=comb_ex (p:=p) (w:=w) (a1:=a2) (a2:=a3) (a3:=a1) (b1:=b2) (b2:=b3) (b3:=b1) (c1:=c2) (c2:=c3) (c3:=c1) (by omega) hw
          (by have e : c2 * (a3 * b1 - a1 * b3) + c3 * (a1 * b2 - a2 * b1) + c1 * (a2 * b3 - a3 * b2) = c1 * (a2 * b3 - a3 * b2) + c2 * (a3 * b1 - a1 * b3) + c3 * (a1 * b2 - a2 * b1) := by omega
              rw [e];exact h)
        exact ⟨u,v,q1,q2,q5,q3,q4⟩
    · obtain ⟨w,hw⟩:=inv_ex hp k2
      obtain ⟨u,v,q1,q2,q3,q4,q5⟩:=comb_ex (p:=p) (w:=w) (a1:=a3) (a2:=a1) (a3:=a2) (b1:=b3) (b2:=b1) (b3:=b2) (c1:=c3) (c2:=c1) (c3:=c2) (by omega) hw
        (by have e : c3 * (a1 * b2 - a2 * b1) + c1 * (a2 * b3 - a3 * b2) + c2 * (a3 * b1 - a1 * b3) = c1 * (a2 * b3 - a3 * b2) + c2 * (a3 * b1 - a1 * b3) + c3 * (a1 * b2 - a2 * b1) := by omega
            rw [e];exact h)
      exact ⟨u,v,q1,q2,q4,q5,q3⟩
  · obtain ⟨w,hw⟩:=inv_ex hp k3
    exact comb_ex (by omega) hw h
theorem qv_some {p : Int} {a b c : TripD} {u v : Int} {r : Int × Int} (h : qv p a b c u v = some r) : cmb p a b u v = c ∧ r = (u,v):=by
 unfold qv at h
 split at h
 ·rename_i hd
  cases h
  exact ⟨(deqT_iff _ _).1 hd,rfl⟩
 ·cases h
theorem parts_spec {p : Int} (hp : isP p) {A B C : TripD} (hA : A ∈ ptsC p) (hB : B ∈ ptsC p) (hC : C ∈ ptsC p) (hAB : A ≠ B) (hAC : A ≠ C) (hBC : B ≠ C)
  (hs : dotC p (crossF p A B) C = 0) : cmb p A B (partsF p A B C).1 (partsF p A B C).2 = C ∧ (partsF p A B C).1 ≠ 0 ∧ (partsF p A B C).2 ≠ 0:=by
 have hb:=isP_bd hp
 have hm:=isP_mem hp
 have hx : crossF p A B ≠ (0,0,0,()):=by
  intro h
  have:=cross_tab p hm A hA B hB
  rw [h,Bool.or_eq_true,deqT_iff] at this
  rcases this with h | h
  ·exact hAB h
  ·exact absurd h (by decide)
 have key : cmb p A B (partsF p A B C).1 (partsF p A B C).2 = C:=by
  unfold partsF
  rw [partsO_eq]
  cases h : findI (qu p A B C) p.toNat 0 with
  | some r =>
   obtain ⟨P⟩ : Nonempty (cmb p A B r.1 r.2 = C):=⟨by
    refine findI_mem (P:=fun r : Int × Int=>cmb p A B r.1 r.2 = C) ?_ h
    intro u x hx
    refine findI_mem (P:=fun r : Int × Int=>cmb p A B r.1 r.2 = C) ?_ hx
    intro v y hy
    obtain ⟨g1,g2⟩:=qv_some hy
    rw [g2];exact g1⟩
   exact P
  | none =>
   exfalso
   obtain ⟨a1,a2,a3,_⟩:=A
   obtain ⟨b1,b2,b3,_⟩:=B
   obtain ⟨c1,c2,c3,_⟩:=C
   obtain ⟨u,v,h1,h2,h3,h4,h5⟩:=comb_all hp hx hs
   obtain ⟨r1,r2,r3⟩:=inRb_iff.1 (pts_in p hm _ hC)
   have hu:=findI_none h u h1.1 (by omega)
   have hv:=findI_none hu v h2.1 (by omega)
   unfold qv at hv
   rw [if_pos] at hv
   ·cases hv
   ·rw [deqT_iff]
    simp only [cmb]
    rw [emod_of_dvd r1 h3,emod_of_dvd r2 h4,emod_of_dvd r3 h5]
 obtain ⟨hu,hv⟩:=parts_rng hp (a:=A) (b:=B) (c:=C)
 refine ⟨key,?_,?_⟩
 ·intro h0
  rw [h0] at key
  have:=mul_tab p hm B hB C hC _ (rng_mem hv)
  rw [Int.toNat_of_nonneg hv.1] at this
  have e : mulT p (partsF p A B C).2 B = C:=Eq.trans (by simp [mulT,cmb]) key
  rw [e,(deqT_iff C C).2 rfl,Bool.not_true,Bool.false_or,deqT_iff] at this
  exact hBC this
 ·intro h0
  rw [h0] at key
  have:=mul_tab p hm A hA C hC _ (rng_mem hu)
  rw [Int.toNat_of_nonneg hu.1] at this
  have e : mulT p (partsF p A B C).1 A = C:=Eq.trans (by simp [mulT,cmb]) key
  rw [e,(deqT_iff C C).2 rfl,Bool.not_true,Bool.false_or,deqT_iff] at this
  exact hAC this
theorem str_on {p a b c : Int} (hp : isP p) (ha : inPt p a = true) (hb : inPt p b = true) (hc : inPt p c = true) (hab : a ≠ b) : strF p a b c = onF p c (joinR p a b):=by
 have hm:=isP_mem hp
 rw [← thr_join hp ha hb hab]
 unfold strF onF thrF
 have hx : crossF p (pt p a) (pt p b) ≠ (0,0,0,()):=by
  intro h
  have:=cross_tab p hm _ (pt_mem hp ha) _ (pt_mem hp hb)
  rw [h,Bool.or_eq_true] at this
  rcases this with h | h
  ·have h2:=pt_ne hp ha hb hab
   unfold deqT at h
   rw [h2] at h
   cases h
  ·exact absurd h (by decide)
 have hr:=cross_in hp (x:=pt p a) (y:=pt p b)
 revert hx hr
 generalize crossF p (pt p a) (pt p b) = X
 obtain ⟨x,y,z,_⟩:=X
 intro hx hr
 obtain ⟨h1,h2,h3⟩:=hr
 simp only at h1 h2 h3
 have t1:=low_tab p hm _ (rng_mem h1) _ (rng_mem h2) _ (rng_mem h3)
 have t2:=dot_tab p hm _ (rng_mem h1) _ (rng_mem h2) _ (rng_mem h3) _ (pt_mem hp hc)
 rw [Int.toNat_of_nonneg h1.1,Int.toNat_of_nonneg h2.1,Int.toNat_of_nonneg h3.1] at t1 t2
 rw [Bool.or_eq_true,deqT_iff,deqT_iff] at t1
 rcases t1 with t1 | t1
 ·exact absurd t1 hx
 ·rw [t1]
  exact beq_iff_eq.1 t2
end Go.Arcs
namespace Go.Arcs
open Go Go.Ab Go.Proofs
end Go.Arcs
namespace Go.Arcs
open Go Go.Ab Go.Proofs
end Go.Arcs
