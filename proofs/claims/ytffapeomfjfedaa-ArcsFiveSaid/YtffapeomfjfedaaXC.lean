/- The cross ratio: contracts. -/
import Derived.Test.YtffapeomfjfedaaXA
set_option linter.unusedVariables false
set_option linter.unusedSimpArgs false
namespace Go.Arcs
open Go Go.Ab Go.Proofs
def strF (p a b c:Int) : Bool:=ieq (dotC p (crossF p (pt p a) (pt p b)) (pt p c)) 0
noncomputable def con71 : Con:=mkC 71 [.d (.ptr Plane),.d I64,.d I64,.d I64] [.bool] (fun (k : PlaneD) (a b c:Int)=>[isPl k,inPt k.1 a = true,inPt k.1 b = true,inPt k.1 c = true]) (fun (k : PlaneD) (a b c:Int)=>(strF k.1 a b c,()))
noncomputable def g71 (x0 : Int × List (Int × Int × Int × Unit) × List ((Int × Int × Int × Unit) × Int) × Unit) (x1 x2 x3:Int) : Option (Bool × Unit):=gd ((0:Int) ≤ x1 ∧ x1 < (↑(List.length x0.2.1):Int)) (gd ((0:Int) ≤ x2 ∧ x2 < (↑(List.length x0.2.1):Int)) (gd (isP x0.1) (gd (inR x0.1 (List.getD x0.2.1 (Int.toNat x1) (((0:Int),(0:Int),(0:Int),()) : Int × Int × Int × Unit))) (gd (inR x0.1 (List.getD x0.2.1 (Int.toNat x2) (((0:Int),(0:Int),(0:Int),()) : Int × Int × Int × Unit))) (gd ((0:Int) ≤ x3 ∧ x3 < (↑(List.length x0.2.1):Int)) (gd (isP x0.1) (gd (inR x0.1 (crossF x0.1 (List.getD x0.2.1 (Int.toNat x1) (((0:Int),(0:Int),(0:Int),()) : Int × Int × Int × Unit)) (List.getD x0.2.1 (Int.toNat x2) (((0:Int),(0:Int),(0:Int),()) : Int × Int × Int × Unit)))) (gd (inR x0.1 (List.getD x0.2.1 (Int.toNat x3) (((0:Int),(0:Int),(0:Int),()) : Int × Int × Int × Unit))) (some ((ieq (dotC x0.1 (crossF x0.1 (List.getD x0.2.1 (Int.toNat x1) (((0:Int),(0:Int),(0:Int),()) : Int × Int × Int × Unit)) (List.getD x0.2.1 (Int.toNat x2) (((0:Int),(0:Int),(0:Int),()) : Int × Int × Int × Unit))) (List.getD x0.2.1 (Int.toNat x3) (((0:Int),(0:Int),(0:Int),()) : Int × Int × Int × Unit))) (0:Int),()) : Bool × Unit))))))))))
noncomputable def g71_sh : List LSh:=([] : List LSh)
noncomputable def conInv2 : Con:=mkC 74 [.d (.ptr Plane),.d I64] [I64] (fun (k : PlaneD) (n:Int)=>[isP k.1,n % k.1 ≠ 0,-1000 ≤ n ∧ n ≤ 1000]) (fun (k : PlaneD) (n:Int)=>(invF k.1 (n % k.1),()))
theorem goal71 : con71.goal Try.prog (spOf [conCross,conDotC]) g71_sh [] lm30:=by
  have e : (∀ (k : PlaneD) (a b c:Int),isPl k → inPt k.1 a = true → inPt k.1 b = true → inPt k.1 c = true → g71 k a b c = some (strF k.1 a b c,())) = con71.goal Try.prog (spOf [conCross,conDotC]) g71_sh [] lm30:=by kernel_rfl
  rw [← e]
  intro k a b c hk ha hb hc
  have hpts:=pl_pts hk
  have h1:=inPt_iff.1 ha
  have h2:=inPt_iff.1 hb
  have h3:=inPt_iff.1 hc
  have hl:=pts_len k.1 (isP_mem hk.1)
  have ea : List.getD (ptsC k.1) a.toNat (0,0,0,()) = pt k.1 a:=rfl
  have eb : List.getD (ptsC k.1) b.toNat (0,0,0,()) = pt k.1 b:=rfl
  have ec : List.getD (ptsC k.1) c.toNat (0,0,0,()) = pt k.1 c:=rfl
  unfold g71
  rw [hpts,ea,eb,ec,gd_pos (by omega),gd_pos (by omega),gd_pos hk.1,gd_pos (pt_in hk.1 ha),gd_pos (pt_in hk.1 hb),gd_pos (by omega),gd_pos hk.1,gd_pos (cross_in hk.1),gd_pos (pt_in hk.1 hc)]
  rfl
set_option maxRecDepth 100000 in
theorem ok71 : con71.Ok Try.prog:=Con.of_goal mixed (okC okCross (okC okDotC okN)) con71 goal71
end Go.Arcs
namespace Go.Arcs
open Go Go.Ab Go.Proofs
theorem w1 : wr .i64 1 = 1:=by decide
theorem w2 : wr .i64 2 = 2:=by decide
theorem w3 : wr .i64 3 = 3:=by decide
theorem w4 : wr .i64 4 = 4:=by decide
def pick {X Y : Type} (o : Option Y) (f : Y → X) (e : X) : X:=match o with
  | some r=>f r
  | none=>e
end Go.Arcs
namespace Go.Arcs
open Go Go.Ab Go.Proofs
theorem goalInv2 : conInv2.goal Try.prog (spOf [conMod]) g74_sh [] lm30:=by
  have e : (∀ (k : PlaneD) (n:Int),isP k.1 → n % k.1 ≠ 0 → (-1000 ≤ n ∧ n ≤ 1000) → g74 k n = some (invF k.1 (n % k.1),())) = conInv2.goal Try.prog (spOf [conMod]) g74_sh [] lm30:=by kernel_rfl
  rw [← e]
  intro k n hp hn hb
  have h2:=isP_bd hp
  have hr : rngP k.1 (n % k.1):=by
    have:=Int.emod_nonneg n (show k.1 ≠ 0 by omega)
    have:=Int.emod_lt_of_pos n (show 0 < k.1 by omega)
    have:=Int.emod_eq_of_lt (a:=n % k.1) (b:=k.1) (by omega) (by omega)
    unfold rngP
    omega
  obtain ⟨g1,g2,g3⟩:=inv_spec hp hr
  have g4 : ∀ x,1 ≤ x → x ≤ invF k.1 (n % k.1) → ieq (modF k.1 (wr .i64 (x * n))) 1 = ieq x (invF k.1 (n % k.1)):=by
    intro x h1 hx
    rw [← g3 x h1 hx,modF_eq (by omega),modF_eq (by omega)]
    have b1 : -6000 ≤ x * n ∧ x * n ≤ 6000:=by
      have : x = 1 ∨ x = 2 ∨ x = 3 ∨ x = 4 ∨ x = 5 ∨ x = 6:=by omega
      rcases this with rfl | rfl | rfl | rfl | rfl | rfl <;> omega
    have b2:=mul_bd (c:=7) (a:=x) (b:=n % k.1) (by omega) ⟨Int.emod_nonneg n (by omega),by have:=Int.emod_lt_of_pos n (show 0 < k.1 by omega);omega⟩
    rw [wr_id (by omega),wr_id (by omega)]
    have : x * (n % k.1) % k.1 = x * n % k.1:=by simp [Int.mul_emod]
    rw [this]
  unfold g74
  refine whileO_rec (fun (d : Int × Unit)=>1 ≤ d.1 ∧ d.1 ≤ invF k.1 (n % k.1)) (fun (d : Int × Unit)=>(invF k.1 (n % k.1) - d.1).toNat) (fun (d : Int × Unit)=>(invF k.1 (n % k.1),())) ?_ ((1:Int),()) ⟨by omega,by simp only;omega⟩
  rintro ⟨i,_⟩ ⟨h0,h1⟩
  simp only at h0 h1 ⊢
  rw [gd_pos (by omega),g4 i h0 h1]
  by_cases he : i = invF k.1 (n % k.1)
  · left
    rw [cond_f (by simp [ieq,he]),he]
  · right
    refine ⟨_,by rw [cond_t (by simp [ieq,he]),wr_id (by omega)],⟨by simp only;omega,by simp only;omega⟩,by simp only;omega,by trivial⟩
set_option maxRecDepth 100000 in
theorem okInv2 : conInv2.Ok Try.prog:=Con.of_goal mixed (okC okMod okN) conInv2 goalInv2
end Go.Arcs
namespace Go.Arcs
open Go Go.Ab Go.Proofs
end Go.Arcs
namespace Go.Arcs
open Go Go.Ab Go.Proofs
theorem inv_tab : ∀ p ∈ ([2,3,5,7]:List Int),∀ a ∈ List.range p.toNat,(ieq a 0 || ieq (invF p a * a % p) 1) = true:=by decide +kernel
end Go.Arcs
namespace Go.Arcs
open Go Go.Ab Go.Proofs
theorem rng_mem {p a : Int} (h : 0 ≤ a ∧ a < p) : a.toNat ∈ List.range p.toNat:=List.mem_range.2 (by omega)
theorem inv_ex {p n : Int} (hp : isP p) (hn : n % p ≠ 0) : ∃ w,p ∣ w * n - 1:=by
  have hb:=isP_bd hp
  have h0:=Int.emod_nonneg n (show p ≠ 0 by omega)
  have h1:=Int.emod_lt_of_pos n (show 0 < p by omega)
  have h:=inv_tab p (isP_mem hp) _ (rng_mem ⟨h0,h1⟩)
  rw [Int.toNat_of_nonneg h0,Bool.or_eq_true,ieq_iff,ieq_iff] at h
  rcases h with h | h
  · exact absurd h hn
  · refine ⟨invF p (n % p),?_⟩
    rw [Int.mul_emod,Int.emod_emod_of_dvd n (Int.dvd_refl p),← Int.mul_emod] at h
    have : (invF p (n % p) * n - 1) % p = 0:=by
      rw [← Int.emod_eq_emod_iff_emod_sub_eq_zero,h]
      exact (Int.emod_eq_of_lt (by omega) (by omega)).symm
    exact Int.dvd_of_emod_eq_zero this
end Go.Arcs
namespace Go.Arcs
open Go Go.Ab Go.Proofs
end Go.Arcs
namespace Go.Arcs
open Go Go.Ab Go.Proofs
end Go.Arcs
