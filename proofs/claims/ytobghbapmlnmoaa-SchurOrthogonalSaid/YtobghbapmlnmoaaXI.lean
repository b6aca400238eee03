/- Strips between shapes of at most 8 boxes: tables. -/
import Derived.Test.YtobghbapmlnmoaaXG
set_option linter.unusedVariables false
set_option linter.unusedSimpArgs false
namespace Go.Schur
open Go Go.Ab Go.Proofs

def P (n : Nat) : List (List Nat) := parts n n n
/-- Whether p without μ is a strip: no two boxes in a column. -/
def memb : List Nat → List Nat → Bool
  | [], [] => true
  | [], [_] => true
  | [], _ => false
  | m :: _, [] => false
  | m :: μ, a :: p => Nat.ble m a && (Nat.ble (p.headD 0) m && memb μ p)
def strip (l : List Nat) : List Nat := l.filter fun x => !Nat.beq x 0
/-- Shapes with k boxes less. -/
def less (k : Nat) (p : List Nat) : List (List Nat) := (P (p.sum - k)).filter fun μ => memb μ p

end Go.Schur

set_option linter.unusedVariables false
set_option linter.unusedSimpArgs false
namespace Go.Schur
open Go Go.Ab Go.Proofs

/-! Sums. -/
def sL {A : Type} (l : List A) (f : A → Int) : Int := (l.map f).sum
/-! Zeros at the end. -/
end Go.Schur

set_option linter.unusedVariables false
set_option linter.unusedSimpArgs false
namespace Go.Schur
open Go Go.Ab Go.Proofs

def fct : Nat → Nat
  | 0 => 1
  | n + 1 => (n + 1) * fct n
def mulN : List Nat → Nat
  | [] => 1
  | a :: l => a * mulN l
def hook (p : List Nat) (i j : Nat) : Nat := p.getD i 0 - j + ((p.filter fun r => Nat.blt j r).length - i) - 1
def hooks (p : List Nat) : Nat := mulN ((List.range p.length).flatMap fun i => (List.range (p.getD i 0)).map fun j => hook p i j)
def hkN (p : List Nat) : Nat := fct p.sum / hooks p
set_option maxRecDepth 100000 in
theorem std_hk : ∀ p ∈ allP, kR (List.replicate p.sum 1) p = hkN p := by decide +kernel
end Go.Schur

set_option linter.unusedVariables false
set_option linter.unusedSimpArgs false
namespace Go.Schur
open Go Go.Ab Go.Proofs

end Go.Schur
