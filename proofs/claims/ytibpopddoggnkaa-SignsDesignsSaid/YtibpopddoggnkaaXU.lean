/- Best: contracts of the law. -/
import Derived.Test.YtibpopddoggnkaaXT
set_option linter.unusedVariables false
set_option linter.unusedSimpArgs false
namespace Go.Signs
open Go Go.Ab Go.Proofs

end Go.Signs

set_option linter.unusedVariables false
set_option linter.unusedSimpArgs false
namespace Go.Signs
open Go Go.Ab Go.Proofs

section
variable {l : List Int} {r c : Int} {m : Int}
/-! ### Remainders by 2 -/
/-! ### Rows that are balanced -/
theorem sq_pos {x : Int} : 0 ≤ x * x := by
  rcases Int.le_total 0 x with h | h
  · exact Int.mul_nonneg h h
  · have := Int.mul_nonneg (a := -x) (b := -x) (by omega) (by omega)
    rwa [Int.neg_mul_neg] at this
theorem sumN_sq {f : Nat → Int} {n : Nat} : sumN f n * sumN f n = sumN (fun i => sumN (fun k => f i * f k) n) n := by
  have : sumN (fun i => sumN (fun k => f i * f k) n) n = sumN (fun i => sumN f n * f i) n := sumN_congr fun i _ => by rw [sumN_mul, Int.mul_comm]
  rw [this, sumN_mul]
/-- The product of two rows. -/
def dotR (l : List Int) (i k : Nat) : Int := sumN (fun j => ent l i j * ent l k j) l.length
theorem dot_pop {l : List Int} (h : isM l 16 = true) {i k : Nat} (hi : i < l.length) (hk : k < l.length) : dotR l i k = l.length - 2 * (popN (nx l i ^^^ nx l k) : Int) := by
  rw [← sum_pop (len16 (by omega) h).1 (xor_lt (nx_get h hi).2 (nx_get h hk).2)]
  exact sumN_congr fun j _ => by rw [Nat.testBit_xor, sg_xor]; rfl
theorem bal_dot {l : List Int} (h : isM l 16 = true) : balF l = true ↔ ∀ i k, i < l.length → k < l.length → i ≠ k → dotR l i k = 0 := by
  unfold balF
  simp only [List.all_eq_true, List.mem_range, decide_eq_true_eq]
  constructor
  · intro hb i k hi hk hne
    rw [dot_pop h hi hk]
    rcases Nat.lt_or_ge k i with hlt | hge
    · have := hb i hi k hlt; omega
    · have := hb k hk i (by omega)
      rw [Nat.xor_comm] at this
      omega
  · intro hb i hi k hk
    have := hb i k hi (by omega) (by omega)
    rw [dot_pop h hi (by omega)] at this
    omega
theorem ent_sq {l : List Int} {i j : Nat} : ent l i j * ent l i j = 1 := sg_sq
theorem sumN_const {c : Int} : ∀ {n : Nat}, sumN (fun _ => c) n = n * c
  | 0 => by simp [sumN]
  | n + 1 => by rw [sumN, sumN_const]; grind
theorem dot_self {l : List Int} {i : Nat} : dotR l i i = l.length := by
  unfold dotR
  rw [sumN_congr (g := fun _ => 1) fun j _ => ent_sq, sumN_const, Int.mul_one]
/-- Only one term is not 0. -/
theorem sumN_one {f : Nat → Int} {i : Nat} : ∀ {n : Nat}, i < n → (∀ k, k < n → k ≠ i → f k = 0) → sumN f n = f i
  | n + 1, hi, h => by
    rw [sumN]
    by_cases hn : i = n
    · subst hn
      rw [sumN_congr (g := fun _ => 0) fun k hk => h k (by omega) (by omega), sumN_zero, Int.zero_add]
    · rw [sumN_one (by omega) fun k hk hne => h k (by omega) hne, h n (by omega) (fun e => hn e.symm), Int.add_zero]
end

end Go.Signs

set_option linter.unusedVariables false
set_option linter.unusedSimpArgs false
namespace Go.Signs
open Go Go.Ab Go.Proofs

end Go.Signs

set_option linter.unusedVariables false
set_option linter.unusedSimpArgs false
namespace Go.Signs
open Go Go.Ab Go.Proofs

abbrev A4D := Int × Int × Int × Int × Unit
def l4 (s : A4D) : List Int := [s.1, s.2.1, s.2.2.1, s.2.2.2.1]
end Go.Signs

set_option linter.unusedVariables false
set_option linter.unusedSimpArgs false
namespace Go.Signs
open Go Go.Ab Go.Proofs

/-! ### Signs -/
section
variable {m a b c d : Int}
end

end Go.Signs

set_option linter.unusedVariables false
set_option linter.unusedSimpArgs false
namespace Go.Signs
open Go Go.Ab Go.Proofs

/-! ### The reference -/
end Go.Signs

set_option linter.unusedVariables false
set_option linter.unusedSimpArgs false
namespace Go.Signs
open Go Go.Ab Go.Proofs

/-! ### Products of circulants -/
section
variable {m a b c d : Int}
/-! ### The loops -/
end

/-! ### Array -/
section
variable {m : Nat} {a b c d : Int}
end

end Go.Signs
