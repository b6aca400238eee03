/- Blocking: contracts that read a slice which is written to elsewhere, and the law's. -/
import Derived.Test.YtffapeomfjfedaaXG
import Derived.Test.YtffapeomfjfedaaAT
set_option linter.unusedVariables false
set_option linter.unusedSimpArgs false
namespace Go.Arcs
open Go Go.Ab Go.Proofs

end Go.Arcs

set_option linter.unusedVariables false
set_option linter.unusedSimpArgs false
namespace Go.Arcs
open Go Go.Ab Go.Proofs

end Go.Arcs

set_option linter.unusedVariables false
set_option linter.unusedSimpArgs false
namespace Go.Arcs
open Go Go.Ab Go.Proofs

/-! ### Sums -/
/-! ### Two points are on one line -/
def mask : List Bool → Nat
  | [] => 0
  | b :: l => (if b = true then 1 else 0) + 2 * mask l
def pc : Nat → Nat → Nat
  | 0, _ => 0
  | k + 1, x => x % 2 + pc k (x / 2)
section
variable {p : Int}
variable {l : List Int}
/-! ### The points that are not in a set -/
end

end Go.Arcs

set_option linter.unusedVariables false
set_option linter.unusedSimpArgs false
namespace Go.Arcs
open Go Go.Ab Go.Proofs

section
variable {p : Int} {l : List Int}
end

end Go.Arcs
