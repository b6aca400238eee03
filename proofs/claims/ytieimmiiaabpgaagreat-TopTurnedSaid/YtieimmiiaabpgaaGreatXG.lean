/- Groups of permutations,reckoned. -/
import Derived.Test.YtieimmiiaabpgaaGreatXE
set_option linter.unusedVariables false
set_option linter.unusedSimpArgs false
set_option maxRecDepth 100000
namespace Go.Top
open Go Go.Ab Go.Proofs Go.Schur
theorem gok0:isG (h23z [[0],[0]]) grp0=true:=by decide +kernel
theorem gok1:isG (h23z [[1,0],[1,0]]) grp1=true:=by decide +kernel
theorem gok2:isG (h23z [[1,2,0],[1,0,2]]) grp2=true:=by decide +kernel
theorem gok4:isG (h23z [[1,0]]) grp4=true:=by decide +kernel
theorem gok5:isG (h23z [[1,2,0],[0,2,1]]) grp5=true:=by decide +kernel
theorem gok6:isG (h23z [[1,2,3,0],[0,3,2,1]]) grp6=true:=by decide +kernel
theorem gok7:isG (h23z [[1,2,3,4,0],[0,4,3,2,1]]) grp7=true:=by decide +kernel
end Go.Top
