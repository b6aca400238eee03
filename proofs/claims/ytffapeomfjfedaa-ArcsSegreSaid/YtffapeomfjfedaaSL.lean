/-
 DERIVED: THE SHELF's CONTRACTS AT THIS DUMP,IN PLAIN WORDS (tools/lay-plain.mjs out of 'TryShelf.lean',which tools/lay-shelf.mjs wrote): THE SAME DECLARATIONS UNDER THE SAME NAMES: 'import','namespace','open','def','theorem' AND NOTHING ELSE: no command of the shelf's: FOR A HAND-IN. Each laying: the table of numbers ('.._ren') and one theorem,a field a fact of the dump's own or the kernel's comparison;each contract: ONE APPLICATION.
-/
import Derived.Shelf.Sort.Plain
import Derived.Shelf.Slices.In.SortNone
import Derived.Test.YtffapeomfjfedaaProg
namespace Go.Proofs
open Go.Shelf
def Try.lays189_ren : Go.Shelf.Ren:=⟨fun | 189=>66 | 125=>110 | 257=>109 | 128=>133 | 129=>134 | 294=>124 | 295=>125 | 296=>126 | 297=>127 | 298=>128 | 299=>129 | 216=>130 | 300=>131 | 301=>132 | 328=>135 | 329=>136 | 330=>137 | 331=>138 | 332=>139 | 215=>140 | 343=>141 | n=>n,fun | 28=>39 | 3=>3 | 46=>33 | 0=>0 | 51=>142 | 53=>144 | 4=>4 | 183=>135 | 182=>134 | 131=>139 | 5=>5 | 9=>9 | 218=>145 | 222=>149 | 228=>151 | 229=>91 | n=>n,fun | n=>n⟩
theorem Try.lays189 : Go.Proofs.Lays.n189 Try.prog Try.lays189_ren:={
 mixed:=by kernel_rfl
 f125:=Try.func110.trans (congrArg some (by kernel_rfl))
 f128:=Try.func133.trans (congrArg some (by kernel_rfl))
 f129:=Try.func134.trans (congrArg some (by kernel_rfl))
 f189:=Try.func66.trans (congrArg some (by kernel_rfl))
 f215:=Try.func140.trans (congrArg some (by kernel_rfl))
 f216:=Try.func130.trans (congrArg some (by kernel_rfl))
 f257:=Try.func109.trans (congrArg some (by kernel_rfl))
 f294:=Try.func124.trans (congrArg some (by kernel_rfl))
 f295:=Try.func125.trans (congrArg some (by kernel_rfl))
 f296:=Try.func126.trans (congrArg some (by kernel_rfl))
 f297:=Try.func127.trans (congrArg some (by kernel_rfl))
 f298:=Try.func128.trans (congrArg some (by kernel_rfl))
 f299:=Try.func129.trans (congrArg some (by kernel_rfl))
 f300:=Try.func131.trans (congrArg some (by kernel_rfl))
 f301:=Try.func132.trans (congrArg some (by kernel_rfl))
 f328:=Try.func135.trans (congrArg some (by kernel_rfl))
 f329:=Try.func136.trans (congrArg some (by kernel_rfl))
 f330:=Try.func137.trans (congrArg some (by kernel_rfl))
 f331:=Try.func138.trans (congrArg some (by kernel_rfl))
 f332:=Try.func139.trans (congrArg some (by kernel_rfl))
 f343:=Try.func141.trans (congrArg some (by kernel_rfl))
 t0:=Try.underlying0
 a0:=Try.isAgg0
 z0:=Try.sizeOf0
 v0:=Try.zeroValue0
 t3:=Try.underlying3
 a3:=Try.isAgg3
 z3:=Try.sizeOf3
 v3:=Try.zeroValue3
 t4:=Try.underlying4
 a4:=Try.isAgg4
 z4:=Try.sizeOf4
 v4:=Try.zeroValue4
 t5:=Try.underlying5
 a5:=Try.isAgg5
 z5:=Try.sizeOf5
 v5:=Try.zeroValue5
 t9:=Try.underlying9
 a9:=Try.isAgg9
 z9:=Try.sizeOf9
 v9:=Try.zeroValue9
 t28:=Try.underlying39
 a28:=Try.isAgg39
 z28:=Try.sizeOf39
 v28:=Try.zeroValue39
 t46:=Try.underlying33
 a46:=Try.isAgg33
 z46:=Try.sizeOf33
 v46:=Try.zeroValue33
 t51:=Try.underlying142
 a51:=Try.isAgg142
 z51:=Try.sizeOf142
 v51:=Try.zeroValue142
 t53:=Try.underlying144
 a53:=Try.isAgg144
 z53:=Try.sizeOf144
 v53:=Try.zeroValue144
 t131:=Try.underlying139
 a131:=Try.isAgg139
 z131:=Try.sizeOf139
 v131:=Try.zeroValue139
 t182:=Try.underlying134
 a182:=Try.isAgg134
 z182:=Try.sizeOf134
 v182:=Try.zeroValue134
 t183:=Try.underlying135
 a183:=Try.isAgg135
 z183:=Try.sizeOf135
 v183:=Try.zeroValue135
 t218:=Try.underlying145
 a218:=Try.isAgg145
 z218:=Try.sizeOf145
 v218:=Try.zeroValue145
 t222:=Try.underlying149
 a222:=Try.isAgg149
 z222:=Try.sizeOf149
 v222:=Try.zeroValue149
 t228:=Try.underlying151
 a228:=Try.isAgg151
 z228:=Try.sizeOf151
 v228:=Try.zeroValue151
 t229:=Try.underlying91
 a229:=Try.isAgg91
 z229:=Try.sizeOf91
 v229:=Try.zeroValue91 }
end Go.Proofs
