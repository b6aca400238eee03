/- Printed functions, reckoned: conditions that can be decided, loops with fuel. What such a function yields the printed one yields. -/
import Derived.Test.YtobghbapmlnmoaaAR
set_option linter.unusedVariables false
set_option linter.unusedSimpArgs false
namespace Go.Ab
def gdD {X : Type} (p : Prop) [Decidable p] (x : Option X) : Option X := if p then x else none
def eqOD {X : Type} [DecidableEq X] (P : Prop) [Decidable P] (a b : Option X) : Option X := match b with
  | some r => if P then (if a = some r then some r else none) else some r
  | none => none
def whileF {S X : Type} (n:Nat) (step : S → Option (Lp S X)) (s : S) : Option X := whileN step n s
def LeO {X : Type} (a b : Option X) : Prop := ∀ x, a = some x → b = some x
deriving instance DecidableEq for Lp
section
variable {S X Y : Type}
theorem leO_refl {a : Option X} : LeO a a := fun _ h => h
theorem leO_gd {p : Prop} [Decidable p] {a b : Option X} (h : LeO a b) : LeO (gdD p a) (gd p b) := fun x hx => by
  unfold gdD at hx
  split at hx
  · rename_i hp; rw [gd_pos hp]; exact h x hx
  · cases hx
theorem leO_cond {c : Bool} {a a' b b' : Option X} (h : LeO a a') (h' : LeO b b') : LeO (cond c a b) (cond c a' b') := by
  cases c
  · exact h'
  · exact h
theorem leO_map {f : X → Y} {a b : Option X} (h : LeO a b) : LeO (a.map f) (b.map f) := fun x hx => by
  cases a with
  | none => cases hx
  | some y => rw [h y rfl]; exact hx
theorem leO_eqO [DecidableEq X] {P : Prop} [Decidable P] {a a' b b' : Option X} (h : LeO a a') (h' : LeO b b') : LeO (eqOD P a b) (eqO P a' b') := fun x hx => by
  rw [eqO_some]
  unfold eqOD at hx
  cases b with
  | none => cases hx
  | some r =>
    simp only at hx
    split at hx
    · rename_i hP
      split at hx
      · rename_i e; cases hx; exact ⟨h' _ rfl, fun _ => h _ e⟩
      · cases hx
    · rename_i hP; cases hx; exact ⟨h' _ rfl, fun h => absurd h hP⟩
theorem leO_whileN {st st' : S → Option (Lp S X)} (h : ∀ s, LeO (st s) (st' s)) : ∀ {n : Nat} {s : S}, LeO (whileN st n s) (whileO st' s)
  | 0, _ => fun x hx => by cases hx
  | n + 1, s => fun x hx => by
    rw [whileO_eq]
    rw [whileN] at hx
    cases hs : st s with
    | none => rw [hs] at hx; cases hx
    | some l =>
      rw [hs] at hx
      rw [h s l hs]
      cases l with
      | go s' => exact leO_whileN h x hx
      | out y => exact hx
theorem leO_while {st st' : S → Option (Lp S X)} {n : Nat} {s : S} (h : ∀ s, LeO (st s) (st' s)) : LeO (whileF n st s) (whileO st' s) := leO_whileN h
end
end Go.Ab
