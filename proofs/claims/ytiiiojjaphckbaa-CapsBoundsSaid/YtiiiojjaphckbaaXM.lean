/- Sums, Apart, Steps: contracts. -/
import Derived.Test.YtiiiojjaphckbaaXK
set_option linter.unusedVariables false
set_option linter.unusedSimpArgs false
namespace Go.Caps
open Go Go.Ab Go.Proofs

def below (l : List Int) (v : Int) : Int := (l.countP fun x => decide (x < v) : Nat)
/-- No three in steps. -/
def stepsF (l : List Int) : Bool := (List.range l.length).all fun j => (List.range j).all fun i => !l.contains (2 * l.getD j 0 - l.getD i 0)
end Go.Caps

set_option linter.unusedVariables false
set_option linter.unusedSimpArgs false
namespace Go.Caps
open Go Go.Ab Go.Proofs

/-! ### What was met before -/
theorem ris_short {n : Int} {l : List Int} (hn : 0 ≤ n + 1) (hr : ris l = true) (hb : ∀ x ∈ l, 0 ≤ x ∧ x ≤ n) : (l.length : Int) ≤ n + 1 := by
  rcases Nat.eq_zero_or_pos l.length with h0 | h0
  · have : l = [] := List.eq_nil_of_length_eq_zero h0
    subst this
    simpa using hn
  · have h1 := hb (l.getD 0 0) (by rw [gd_at h0]; exact List.getElem_mem h0)
    have h2 := hb (l.getD (l.length - 1) 0) (by rw [gd_at (by omega)]; exact List.getElem_mem _)
    have h3 := ris_ge hr (l.length - 1) (by omega)
    omega
theorem mem_at {l : List Int} {i : Nat} (h : i < l.length) : l.getD i 0 ∈ l := by rw [gd_at h]; exact List.getElem_mem h

end Go.Caps

set_option linter.unusedVariables false
set_option linter.unusedSimpArgs false
namespace Go.Caps
open Go Go.Ab Go.Proofs

/-! ### Apart -/
/-! ### Sums in the reference -/
/-! ### Differences and sums -/
theorem ris_pw : ∀ {l : List Int}, ris l = true → l.Pairwise (· < ·)
  | [], _ => List.Pairwise.nil
  | x :: l, h => by
    obtain ⟨h1, h2⟩ := ris_cons h
    exact List.Pairwise.cons h2 (ris_pw h1)

def difOk (n : Int) (l : List Int) : Prop := ∀ a1 ∈ l, ∀ a2 ∈ l, ∀ b1 ∈ l, ∀ b2 ∈ l, a1 ≠ a2 → b1 ≠ a1 → b2 ≠ a2 → ¬ ∃ q, (a1 - b1) - (a2 - b2) = n * q
end Go.Caps

set_option linter.unusedVariables false
set_option linter.unusedSimpArgs false
namespace Go.Caps
open Go Go.Ab Go.Proofs

/-! ### Steps -/
/-! ### The functions -/
end Go.Caps
