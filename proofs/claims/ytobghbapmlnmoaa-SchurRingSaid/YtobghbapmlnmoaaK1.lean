/- The rule of strips for values: a value times that of a single row. -/
import Derived.Test.YtobghbapmlnmoaaXF
set_option linter.unusedVariables false
set_option linter.unusedSimpArgs false
namespace Go.Schur
open Go Go.Ab Go.Proofs
def bothM (n:Nat) (μ ν : List Nat) : Nat:=((P n).filter fun p=>memb μ p && memb ν p).length
def bothL (n:Nat) (μ ν : List Nat) : Nat:=((P n).filter fun p=>memb p μ && memb p ν).length
def sumN' (l : List Nat) (f : Nat → Nat) : Nat:=(l.map f).sum
set_option maxRecDepth 100000 in
theorem strips : ∀ μ ∈ allP, ∀ r ∈ List.range (9 - μ.sum), ∀ k ∈ List.range (μ.sum + r + 1), ∀ ν ∈ P (μ.sum + r - k),
    bothM (μ.sum + r) μ ν = sumN' (List.range (r + 1)) fun v=>if v ≤ μ.sum + r - k then bothL (μ.sum + r - k - v) μ ν else 0:=by decide +kernel
set_option maxRecDepth 100000 in
theorem memb_le : ∀ μ ∈ allP,∀ p ∈ allP,memb μ p = true → μ.sum ≤ p.sum:=by decide +kernel
end Go.Schur
