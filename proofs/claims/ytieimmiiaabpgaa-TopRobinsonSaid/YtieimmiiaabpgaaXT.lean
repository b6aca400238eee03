/- Groups of mirrors: the table of A4 as a constant,by pieces of. -/
import Derived.Test.YtieimmiiaabpgaaXJ
set_option linter.unusedVariables false
set_option linter.unusedSimpArgs false
set_option maxRecDepth 100000
namespace Go.Top
open Go Go.Ab Go.Proofs Go.Schur
theorem t4_0:qeo qdj 10 (st37 tab4 0 1)=some (st37 tab4 10 24):=qf7 (by decide +kernel)
theorem t4_1:qeo qdj 10 (st37 tab4 10 24)=some (st37 tab4 20 38):=qf7 (by decide +kernel)
theorem t4_2:qeo qdj 10 (st37 tab4 20 38)=some (st37 tab4 30 51):=qf7 (by decide +kernel)
theorem t4_3:qeo qdj 10 (st37 tab4 30 51)=some (st37 tab4 40 63):=qf7 (by decide +kernel)
theorem t4_4:qeo qdj 10 (st37 tab4 40 63)=some (st37 tab4 50 73):=qf7 (by decide +kernel)
theorem t4_5:qeo qdj 10 (st37 tab4 50 73)=some (st37 tab4 60 82):=qf7 (by decide +kernel)
theorem t4_6:qeo qdj 10 (st37 tab4 60 82)=some (st37 tab4 70 91):=qf7 (by decide +kernel)
theorem t4_7:qeo qdj 10 (st37 tab4 70 91)=some (st37 tab4 80 99):=qf7 (by decide +kernel)
theorem t4_8:qeo qdj 10 (st37 tab4 80 99)=some (st37 tab4 90 106):=qf7 (by decide +kernel)
theorem t4_9:qeo qdj 10 (st37 tab4 90 106)=some (st37 tab4 100 112):=qf7 (by decide +kernel)
theorem zc5:qeo qdj 10 (st37 tab4 100 112)=some (st37 tab4 110 118):=qf7 (by decide +kernel)
theorem zct:qeo qdj 10 (st37 tab4 110 118)=some (st37 tab4 120 120):=qf7 (by decide +kernel)
end Go.Top
