/- Printed functions, reckoned: conditions that can be decided, loops with fuel. What such a function yields the printed one yields. -/
import Derived.Test.YtobghbapmlnmoaaAR
set_option linter.unusedVariables false
set_option linter.unusedSimpArgs false
namespace Go.Ab
def gdD {X : Type} (p : Prop) [Decidable p] (x : Option X) : Option X := if p then x else none
def whileF {S X : Type} (n:Nat) (step : S → Option (Lp S X)) (s : S) : Option X := whileN step n s
section
variable {S X Y : Type}
end
end Go.Ab
