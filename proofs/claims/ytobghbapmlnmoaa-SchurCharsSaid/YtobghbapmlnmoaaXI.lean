/- Strips between shapes of at most 8 boxes: tables. -/
import Derived.Test.YtobghbapmlnmoaaXG
set_option linter.unusedVariables false
set_option linter.unusedSimpArgs false
namespace Go.Schur
open Go Go.Ab Go.Proofs

def P (n : Nat) : List (List Nat) := parts n n n
/-- Whether p without μ is a strip: no two boxes in a column. -/
def memb : List Nat → List Nat → Bool
  | [], [] => true
  | [], [_] => true
  | [], _ => false
  | m :: _, [] => false
  | m :: μ, a :: p => Nat.ble m a && (Nat.ble (p.headD 0) m && memb μ p)
def strip (l : List Nat) : List Nat := l.filter fun x => !Nat.beq x 0
/-- Shapes with k boxes less. -/
def less (k : Nat) (p : List Nat) : List (List Nat) := (P (p.sum - k)).filter fun μ => memb μ p

end Go.Schur

set_option linter.unusedVariables false
set_option linter.unusedSimpArgs false
namespace Go.Schur
open Go Go.Ab Go.Proofs

/-! Sums. -/
def sL {A : Type} (l : List A) (f : A → Int) : Int := (l.map f).sum
theorem sL_cons {A : Type} {a : A} {l : List A} {f : A → Int} : sL (a :: l) f = f a + sL l f := by simp [sL]
theorem sL_congr {A : Type} {l : List A} {f g : A → Int} (h : ∀ a ∈ l, f a = g a) : sL l f = sL l g := by
  unfold sL; rw [List.map_congr_left h]
theorem sL_zero {A : Type} {l : List A} : sL l (fun _ => (0 : Int)) = 0 := by
  induction l with
  | nil => rfl
  | cons a l ih => rw [sL_cons, ih]; rfl
theorem sL_filter {A : Type} {p : A → Bool} {f : A → Int} : ∀ {l : List A}, sL (l.filter p) f = sL l fun a => cond (p a) (f a) 0
  | [] => rfl
  | a :: l => by
    rw [List.filter_cons, sL_cons, ← sL_filter (l := l)]
    cases h : p a
    · simp [h]
    · simp [h, sL_cons]
theorem sL_map {A B : Type} {g : A → B} {f : B → Int} {l : List A} : sL (l.map g) f = sL l fun a => f (g a) := by simp [sL, List.map_map]; rfl
theorem sum_cast {l : List Nat} : ((l.sum : Nat) : Int) = sL l fun n => (n : Int) := by
  induction l with
  | nil => rfl
  | cons a l ih => rw [List.sum_cons, sL_cons, ← ih]; omega

/-! Zeros at the end. -/
theorem allP_iff {p : List Nat} : p ∈ allP ↔ ∃ n, n ≤ 8 ∧ p ∈ P n := by
  unfold allP P
  rw [List.mem_flatMap]
  constructor
  · rintro ⟨n, h1, h2⟩; exact ⟨n, by have := List.mem_range.1 h1; omega, h2⟩
  · rintro ⟨n, h1, h2⟩; exact ⟨n, List.mem_range.2 (by omega), h2⟩
end Go.Schur

set_option linter.unusedVariables false
set_option linter.unusedSimpArgs false
namespace Go.Schur
open Go Go.Ab Go.Proofs

end Go.Schur

set_option linter.unusedVariables false
set_option linter.unusedSimpArgs false
namespace Go.Schur
open Go Go.Ab Go.Proofs

end Go.Schur
