/- The cross ratio: plain facts of parts and of ratios. -/
import Derived.Test.YtffapeomfjfedaaC4
set_option linter.unusedVariables false
set_option linter.unusedSimpArgs false
namespace Go.Arcs
open Go Go.Ab Go.Proofs

theorem cross_tab : ∀ p ∈ ([2, 3, 5, 7] : List Int), ∀ x ∈ ptsC p, ∀ y ∈ ptsC p, (deqT x y || !deqT (crossF p x y) (0, 0, 0, ())) = true := by decide +kernel
theorem mul_tab : ∀ p ∈ ([2, 3, 5, 7] : List Int), ∀ x ∈ ptsC p, ∀ y ∈ ptsC p, ∀ k ∈ List.range p.toNat, (!deqT (mulT p k x) y || deqT x y) = true := by decide +kernel
theorem low_tab : ∀ p ∈ ([2, 3, 5, 7] : List Int), ∀ a ∈ List.range p.toNat, ∀ b ∈ List.range p.toNat, ∀ c ∈ List.range p.toNat,
    (deqT ((a : Int), (b : Int), (c : Int), ()) (0, 0, 0, ()) || deqT (pt p (numC p (lowF p ((a : Int), (b : Int), (c : Int), ())))) (lowF p ((a : Int), (b : Int), (c : Int), ()))) = true := by decide +kernel
theorem dot_tab : ∀ p ∈ ([2, 3, 5, 7] : List Int), ∀ a ∈ List.range p.toNat, ∀ b ∈ List.range p.toNat, ∀ c ∈ List.range p.toNat, ∀ y ∈ ptsC p,
    (ieq (dotC p ((a : Int), (b : Int), (c : Int), ()) y) 0 == ieq (dotC p y (lowF p ((a : Int), (b : Int), (c : Int), ()))) 0) = true := by decide +kernel
theorem inv_tab : ∀ p ∈ ([2, 3, 5, 7] : List Int), ∀ a ∈ List.range p.toNat, (ieq a 0 || ieq (invF p a * a % p) 1) = true := by decide +kernel
theorem rat_tab : ∀ p ∈ ([2, 3, 5, 7] : List Int), ∀ u ∈ List.range p.toNat, ∀ v ∈ List.range p.toNat, ∀ s ∈ List.range p.toNat, ∀ t ∈ List.range p.toNat,
    (ieq u 0 || ieq v 0 || ieq s 0 || ieq t 0 || (!ieq ((v : Int) * s % p) 0 && ieq ((u : Int) * t * invF p ((v : Int) * s % p) % p) (ratR p u v s t))) = true := by decide +kernel

theorem comb_ex {p w a1 a2 a3 b1 b2 b3 c1 c2 c3 : Int} (hp : 0 < p) (k : p ∣ w * (a1 * b2 - a2 * b1) - 1)
    (h : p ∣ c1 * (a2 * b3 - a3 * b2) + c2 * (a3 * b1 - a1 * b3) + c3 * (a1 * b2 - a2 * b1)) :
    ∃ u v : Int, (0 ≤ u ∧ u < p) ∧ (0 ≤ v ∧ v < p) ∧ p ∣ u * a1 + v * b1 - c1 ∧ p ∣ u * a2 + v * b2 - c2 ∧ p ∣ u * a3 + v * b3 - c3 := by
  obtain ⟨m, hm⟩ := k
  obtain ⟨n, hn⟩ := h
  have e1 := Int.emod_add_mul_ediv (w * (c1 * b2 - c2 * b1)) p
  have e2 := Int.emod_add_mul_ediv (w * (a1 * c2 - a2 * c1)) p
  refine ⟨(w * (c1 * b2 - c2 * b1)) % p, (w * (a1 * c2 - a2 * c1)) % p, ⟨Int.emod_nonneg _ (by omega), Int.emod_lt_of_pos _ hp⟩, ⟨Int.emod_nonneg _ (by omega), Int.emod_lt_of_pos _ hp⟩, ?_, ?_, ?_⟩
  all_goals
    revert e1 e2
    generalize (w * (c1 * b2 - c2 * b1)) % p = u
    generalize (w * (a1 * c2 - a2 * c1)) % p = v
    generalize (w * (c1 * b2 - c2 * b1)) / p = q1
    generalize (w * (a1 * c2 - a2 * c1)) / p = q2
    intro e1 e2
  · exact ⟨c1 * m - q1 * a1 - q2 * b1, by grind⟩
  · exact ⟨c2 * m - q1 * a2 - q2 * b2, by grind⟩
  · exact ⟨c3 * m - w * n - q1 * a3 - q2 * b3, by grind⟩

end Go.Arcs
