/- Kostka and Rule: contracts of the counting closures. -/
import Derived.Test.YtobghbapmlnmoaaXB
set_option linter.unusedVariables false
set_option linter.unusedSimpArgs false
namespace Go.Schur
open Go Go.Ab Go.Proofs
def ent8 (rows:List (List Int)):Prop:=rows.length≤1000∧∀ r∈rows,r.length≤1000∧∀ x∈r,1≤x∧x≤8
abbrev P109 (f:Nat):List TB:=[.nest I64,.cells [.fn f .nil],.cells [.v I64]]
abbrev F109 (j:Nat):TV:=.fn 109 (.cons (.ref j 1 0 0) (.cons (.ref (j+1) 1 0 0) .nil))
abbrev P77b (f:Nat):List TB:=[.cells [.v LI,.v LI,.slf 3 1,.v I64,.slf 4 1],.cells [.fn f .nil],.cells [.v I64],.arr I64 true,.nest I64]
abbrev Q77b (f:Nat):List TB:=[.cells [.v LI,.v LI,.slf 3 1,.v I64,.slf 5 1],.cells [.fn f .nil],.cells [.v I64],.arr I64 true,.dead,.nest I64]
def preB (n:Nat) (inner outer left:List Int) (most:Int) (rows:List (List Int)) (out:Int):Prop:=preM n inner outer left most false rows∧0≤out∧out+(fil inner outer most false n left rows).length≤500000000
abbrev P68b (f:Nat):List TB:=[.cells [.fn f .nil],.cells [.v I64]]
end Go.Schur
