/- The law Arcs: contracts. -/
import Derived.Test.YtffapeomfjfedaaXH
import Derived.Test.YtffapeomfjfedaaSS
import Derived.Test.YtffapeomfjfedaaXC
import Derived.Test.YtffapeomfjfedaaXG
set_option linter.unusedVariables false
set_option linter.unusedSimpArgs false
namespace Go.Arcs
open Go Go.Ab Go.Proofs

/-! the reference -/
end Go.Arcs

set_option linter.unusedVariables false
set_option linter.unusedSimpArgs false
namespace Go.Arcs
open Go Go.Ab Go.Proofs

section
variable {α : Type} {f : α → Bool} {d : α}
end

section
variable {p : Int}
variable {l : List Int}
/-! ### One point more -/
end
end Go.Arcs

set_option linter.unusedVariables false
set_option linter.unusedSimpArgs false
namespace Go.Arcs
open Go Go.Ab Go.Proofs

/-! Arc -/
/-! Free -/
end Go.Arcs

set_option linter.unusedVariables false
set_option linter.unusedSimpArgs false
namespace Go.Arcs
open Go Go.Ab Go.Proofs

/-! Growing -/
section
variable {p : Int}
end
/-! The reference -/
theorem ile_d {x y : Int} : ile x y = decide (x ≤ y) := by
  rw [Bool.eq_iff_iff, ile_iff, decide_eq_true_eq]
end Go.Arcs

set_option linter.unusedVariables false
set_option linter.unusedSimpArgs false
namespace Go.Arcs
open Go Go.Ab Go.Proofs

end Go.Arcs

set_option linter.unusedVariables false
set_option linter.unusedSimpArgs false
namespace Go.Arcs
open Go Go.Ab Go.Proofs

end Go.Arcs

set_option linter.unusedVariables false
set_option linter.unusedSimpArgs false
namespace Go.Arcs
open Go Go.Ab Go.Proofs

section
variable {p : Int} {l : List Int}
end

end Go.Arcs
