/- Groups of mirrors: the table of A4 as a constant,by pieces of. -/
import Derived.Test.YtieimmiiaabpgaaXJ
set_option linter.unusedVariables false
set_option linter.unusedSimpArgs false
set_option maxRecDepth 100000
namespace Go.Top
open Go Go.Ab Go.Proofs Go.Schur
theorem t4_0:qea qc9 10 (st37 tab4 0 1)=some (st37 tab4 10 24):=qfl (by decide +kernel)
theorem t4_1:qea qc9 10 (st37 tab4 10 24)=some (st37 tab4 20 38):=qfl (by decide +kernel)
theorem t4_2:qea qc9 10 (st37 tab4 20 38)=some (st37 tab4 30 51):=qfl (by decide +kernel)
theorem t4_3:qea qc9 10 (st37 tab4 30 51)=some (st37 tab4 40 63):=qfl (by decide +kernel)
theorem t4_4:qea qc9 10 (st37 tab4 40 63)=some (st37 tab4 50 73):=qfl (by decide +kernel)
theorem t4_5:qea qc9 10 (st37 tab4 50 73)=some (st37 tab4 60 82):=qfl (by decide +kernel)
theorem t4_6:qea qc9 10 (st37 tab4 60 82)=some (st37 tab4 70 91):=qfl (by decide +kernel)
theorem t4_7:qea qc9 10 (st37 tab4 70 91)=some (st37 tab4 80 99):=qfl (by decide +kernel)
theorem t4_8:qea qc9 10 (st37 tab4 80 99)=some (st37 tab4 90 106):=qfl (by decide +kernel)
theorem t4_9:qea qc9 10 (st37 tab4 90 106)=some (st37 tab4 100 112):=qfl (by decide +kernel)
theorem q7y:qea qc9 10 (st37 tab4 100 112)=some (st37 tab4 110 118):=qfl (by decide +kernel)
theorem q7z:qea qc9 10 (st37 tab4 110 118)=some (st37 tab4 120 120):=qfl (by decide +kernel)
end Go.Top
