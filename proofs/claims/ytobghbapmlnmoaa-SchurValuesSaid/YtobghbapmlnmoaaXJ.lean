/- All shapes, words, contents: contracts. -/
import Derived.Test.YtobghbapmlnmoaaXI
import Derived.Test.YtobghbapmlnmoaaXG
import Derived.Test.YtobghbapmlnmoaaSS
set_option linter.unusedVariables false
set_option linter.unusedSimpArgs false
namespace Go.Schur
open Go Go.Ab Go.Proofs
end Go.Schur

set_option linter.unusedVariables false
set_option linter.unusedSimpArgs false
namespace Go.Schur
open Go Go.Ab Go.Proofs

end Go.Schur

set_option linter.unusedVariables false
set_option linter.unusedSimpArgs false
namespace Go.Schur
open Go Go.Ab Go.Proofs

theorem cont_toI {m : List Int} (h : contB m = true) : ∃ q : List Nat, m = toI q ∧ q.length ≤ 8 ∧ q.sum ≤ 8 := by
  obtain ⟨h1, h2, h3⟩ := contB_iff.1 h
  have e := toI_toNat (l := m) (fun x hx => (h2 x hx).1)
  refine ⟨m.map Int.toNat, e.symm, by simpa using h1, ?_⟩
  have := toI_sum (p := m.map Int.toNat)
  rw [e] at this
  omega
end Go.Schur

set_option linter.unusedVariables false
set_option linter.unusedSimpArgs false
namespace Go.Schur
open Go Go.Ab Go.Proofs
end Go.Schur

set_option linter.unusedVariables false
set_option linter.unusedSimpArgs false
namespace Go.Schur
open Go Go.Ab Go.Proofs

end Go.Schur

set_option linter.unusedVariables false
set_option linter.unusedSimpArgs false
namespace Go.Schur
open Go Go.Ab Go.Proofs

end Go.Schur

set_option linter.unusedVariables false
set_option linter.unusedSimpArgs false
namespace Go.Schur
open Go Go.Ab Go.Proofs

end Go.Schur
