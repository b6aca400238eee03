/- Groups of mirrors: the table of A4 as a constant,by pieces of. -/
import Derived.Test.YtieimmiiaabpgaaXJ
set_option linter.unusedVariables false
set_option linter.unusedSimpArgs false
set_option maxRecDepth 100000
namespace Go.Top
open Go Go.Ab Go.Proofs Go.Schur
theorem t4_0:qep qdl 10 (st37 tab4 0 1)=some (st37 tab4 10 24):=qf3 (by decide +kernel)
theorem t4_1:qep qdl 10 (st37 tab4 10 24)=some (st37 tab4 20 38):=qf3 (by decide +kernel)
theorem t4_2:qep qdl 10 (st37 tab4 20 38)=some (st37 tab4 30 51):=qf3 (by decide +kernel)
theorem t4_3:qep qdl 10 (st37 tab4 30 51)=some (st37 tab4 40 63):=qf3 (by decide +kernel)
theorem t4_4:qep qdl 10 (st37 tab4 40 63)=some (st37 tab4 50 73):=qf3 (by decide +kernel)
theorem t4_5:qep qdl 10 (st37 tab4 50 73)=some (st37 tab4 60 82):=qf3 (by decide +kernel)
theorem t4_6:qep qdl 10 (st37 tab4 60 82)=some (st37 tab4 70 91):=qf3 (by decide +kernel)
theorem t4_7:qep qdl 10 (st37 tab4 70 91)=some (st37 tab4 80 99):=qf3 (by decide +kernel)
theorem t4_8:qep qdl 10 (st37 tab4 80 99)=some (st37 tab4 90 106):=qf3 (by decide +kernel)
theorem t4_9:qep qdl 10 (st37 tab4 90 106)=some (st37 tab4 100 112):=qf3 (by decide +kernel)
theorem zci:qep qdl 10 (st37 tab4 100 112)=some (st37 tab4 110 118):=qf3 (by decide +kernel)
theorem zca:qep qdl 10 (st37 tab4 110 118)=some (st37 tab4 120 120):=qf3 (by decide +kernel)
end Go.Top
