/- Maps of the plane: contracts. -/
import Derived.Test.YtffapeomfjfedaaXC
set_option linter.unusedVariables false
set_option linter.unusedSimpArgs false
namespace Go.Arcs
open Go Go.Ab Go.Proofs

abbrev MatD := TripD × TripD × TripD × Unit
end Go.Arcs

set_option linter.unusedVariables false
set_option linter.unusedSimpArgs false
namespace Go.Arcs
open Go Go.Ab Go.Proofs

end Go.Arcs

set_option linter.unusedVariables false
set_option linter.unusedSimpArgs false
namespace Go.Arcs
open Go Go.Ab Go.Proofs

end Go.Arcs

set_option linter.unusedVariables false
set_option linter.unusedSimpArgs false
namespace Go.Arcs
open Go Go.Ab Go.Proofs

end Go.Arcs

set_option linter.unusedVariables false
set_option linter.unusedSimpArgs false
namespace Go.Arcs
open Go Go.Ab Go.Proofs

def mulV (m : MatD) (x : TripD) : TripD := (m.1.1 * x.1 + m.1.2.1 * x.2.1 + m.1.2.2.1 * x.2.2.1, m.2.1.1 * x.1 + m.2.1.2.1 * x.2.1 + m.2.1.2.2.1 * x.2.2.1, m.2.2.1.1 * x.1 + m.2.2.1.2.1 * x.2.1 + m.2.2.1.2.2.1 * x.2.2.1, ())
theorem dvd_zero {p x : Int} (h : 0 ≤ x ∧ x < p) (hd : p ∣ x) : x = 0 := by rw [← Int.emod_eq_of_lt h.1 h.2]; exact Int.emod_eq_zero_of_dvd hd

end Go.Arcs

set_option linter.unusedVariables false
set_option linter.unusedSimpArgs false
namespace Go.Arcs
open Go Go.Ab Go.Proofs

def smul (k : Int) (A : TripD) : TripD := (k * A.1, k * A.2.1, k * A.2.2.1, ())
theorem unit_ex {p v : Int} (hp : isP p) (h : ¬ p ∣ v) : ∃ w, p ∣ w * v - 1 := inv_ex hp (fun h0 => h (Int.dvd_of_emod_eq_zero h0))
theorem not_dvd_one {p : Int} (hp : isP p) : ¬ p ∣ 1 := by
  intro h
  have hb := isP_bd hp
  have := dvd_zero (p := p) (x := 1) (by omega) h
  omega
theorem unit_nd {p a b : Int} (hp : isP p) (h : p ∣ a * b - 1) : ¬ p ∣ a := by
  rintro ⟨k, rfl⟩
  obtain ⟨n, hn⟩ := h
  exact not_dvd_one hp ⟨k * b - n, by grind⟩
theorem cancel {p v y : Int} (hp : isP p) (h : ¬ p ∣ v) (hy : p ∣ y * v) : p ∣ y := by
  obtain ⟨w, n, hn⟩ := unit_ex hp h
  obtain ⟨k, hk⟩ := hy
  exact ⟨w * k - n * y, by grind⟩
theorem nd_mul {p a b : Int} (hp : isP p) (ha : ¬ p ∣ a) (hb : ¬ p ∣ b) : ¬ p ∣ a * b := fun h => ha (cancel hp hb h)

end Go.Arcs

set_option linter.unusedVariables false
set_option linter.unusedSimpArgs false
namespace Go.Arcs
open Go Go.Ab Go.Proofs

end Go.Arcs

set_option linter.unusedVariables false
set_option linter.unusedSimpArgs false
namespace Go.Arcs
open Go Go.Ab Go.Proofs

end Go.Arcs
