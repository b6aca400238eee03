/- Commutes: contracts. -/
import Derived.Test.YtobghbapmlnmoaaXN
set_option linter.unusedVariables false
set_option linter.unusedSimpArgs false
namespace Go.Schur
open Go Go.Ab Go.Proofs
end Go.Schur
namespace Go.Schur
open Go Go.Ab Go.Proofs
def tabC (n k:Nat) : Bool:=(P k).all fun a=>(P (n - k)).all fun b=>(P n).all fun c=>decide (refR (toI a) (toI b) (toI c) = refR (toI b) (toI a) (toI c) ∧ refR (toI a) (toI b) (toI c) = refR (conjF (toI a)) (conjF (toI b)) (conjF (toI c)))
theorem tabC_lo : ∀ n ∈ List.range 7,∀ k ∈ List.range (n + 1),tabC n k = true:=by decide +kernel
theorem tabC_7 : ∀ k ∈ List.range 8,tabC 7 k = true:=by decide +kernel
theorem tabC_8a : ∀ k ∈ [0,1,2],tabC 8 k = true:=by decide +kernel
theorem tabC_8b : ∀ k ∈ [3,4],tabC 8 k = true:=by decide +kernel
theorem tabC_8c : ∀ k ∈ [5,6,7,8],tabC 8 k = true:=by decide +kernel
theorem tabC_ok {n k : Nat} (hn : n ≤ 8) (hk : k ≤ n) : tabC n k = true:=by
  by_cases h7 : n < 7
  · exact tabC_lo n (List.mem_range.2 h7) k (List.mem_range.2 (by omega))
  by_cases h8 : n = 7
  · subst h8;exact tabC_7 k (List.mem_range.2 (by omega))
  obtain rfl : n = 8:=by omega
  by_cases h2 : k < 3
  · exact tabC_8a k (by simp;omega)
  by_cases h4 : k < 5
  · exact tabC_8b k (by simp;omega)
  · exact tabC_8c k (by simp;omega)
end Go.Schur
namespace Go.Schur
open Go Go.Ab Go.Proofs
theorem conj_P : ∀ p ∈ allP,conjF (toI p) ∈ (P p.sum).map toI ∧ p.sum < 9 ∧ p ∈ P p.sum:=by decide +kernel
theorem shape_PP {l : List Int} (h : shapeB l = true) : ∃ p : List Nat,l = toI p ∧ boxW l = (p.sum:Nat) ∧ p.sum ≤ 8 ∧ p ∈ P p.sum ∧ conjF l ∈ (P p.sum).map toI:=by
  obtain ⟨p,hp,rfl,hs,_,h8⟩:=shape_allP h
  have:=conj_P p hp
  exact ⟨p,rfl,toI_box hs.len h8,h8,this.2.2,this.1⟩
theorem box_P {n : Nat} (hn : n ≤ 8) {l : List Int} (h : l ∈ (P n).map toI) : shapeB l = true ∧ boxW l = n:=by
  obtain ⟨p,hp,rfl⟩:=List.mem_map.1 h
  have hs : shapeB (toI p) = true:=P_shape n (List.mem_range.2 (by omega)) p hp
  refine ⟨hs,?_⟩
  obtain ⟨q,e,hb,_,hq,_⟩:=shape_PP hs
  rw [hb]
  have : toI p = toI q:=e
  have e2 : p = q:=by
    have:=congrArg (List.map Int.toNat) this
    unfold toI at this
    rw [List.map_map,List.map_map] at this
    simpa [Function.comp_def] using this
  rw [← e2,P_sum n (List.mem_range.2 (by omega)) p hp]
theorem conj_shape {l : List Int} (h : shapeB l = true) : shapeB (conjF l) = true ∧ boxW (conjF l) = boxW l:=by
  obtain ⟨p,rfl,hb,h8,_,hc⟩:=shape_PP h
  have:=box_P h8 hc
  exact ⟨this.1,by rw [this.2,hb]⟩
theorem refR_box {a b c : List Int} (h : boxW a + boxW b ≠ boxW c) : refR a b c = 0:=by unfold refR;rw [if_neg fun h'=>h h'.1]
theorem ref_tab {a b c : List Int} (h : sh3 a b c) : refR a b c = refR b a c ∧ refR a b c = refR (conjF a) (conjF b) (conjF c):=by
  obtain ⟨ha,hb,hc⟩:=h
  by_cases e : boxW a + boxW b = boxW c
  · obtain ⟨p,rfl,hp,p8,pm,_⟩:=shape_PP ha
    obtain ⟨q,rfl,hq,q8,qm,_⟩:=shape_PP hb
    obtain ⟨r,rfl,hr,r8,rm,_⟩:=shape_PP hc
    have es : p.sum + q.sum = r.sum:=by omega
    have:=tabC_ok (n:=r.sum) (k:=p.sum) r8 (by omega)
    have h1:=List.all_eq_true.1 this p pm
    have h2:=List.all_eq_true.1 h1 q (by rw [show r.sum - p.sum = q.sum by omega];exact qm)
    exact of_decide_eq_true (List.all_eq_true.1 h2 r rm)
  · rw [refR_box e,refR_box (by omega),refR_box (a:=conjF a) (by rw [(conj_shape ha).2,(conj_shape hb).2,(conj_shape hc).2];exact e)]
    exact ⟨rfl,rfl⟩
theorem rule_nn {a b c : List Int} : 0 ≤ ruleF a b c:=by
  unfold ruleF eachL filL
  split
  · split <;> omega
  · exact Int.le_refl _
theorem terms_mem {a b : List Int} {cs : List (List Int)} {t : TermD} (h : t ∈ termsF a b cs) : t.1 ∈ cs ∧ t.2.1 = ruleF a b t.1 ∧ 0 < t.2.1:=by
  obtain ⟨c,hc,ht⟩:=List.mem_flatMap.1 h
  unfold termF at ht
  split at ht
  · rw [List.mem_singleton.1 ht];exact ⟨hc,rfl,by assumption⟩
  · cases ht
end Go.Schur
namespace Go.Schur
open Go Go.Ab Go.Proofs
end Go.Schur
namespace Go.Schur
open Go Go.Ab Go.Proofs
def told (a b c:List Int) (l : List TermD) : Int:=if c ∈ l.map (·.1) then ruleF a b c else 0
end Go.Schur
