/- Table and Split,reckoned. -/
import Derived.Test.YtieimmiiaabpgaaGreatXN
set_option linter.unusedVariables false
set_option linter.unusedSimpArgs false
set_option maxRecDepth 100000
namespace Go.Top
open Go Go.Ab Go.Proofs Go.Schur
theorem tok0:isA (h12z [[0],[0]]) (tabG [[0],[0]])=true:=by decide +kernel
theorem tok1:isA (h12z [[1,0],[1,0]]) (tabG [[1,0],[1,0]])=true:=by decide +kernel
theorem tok2:isA (h12z [[1,2,0],[1,0,2]]) (tabG [[1,2,0],[1,0,2]])=true:=by decide +kernel
theorem tok4:isA (h12z [[1,0]]) (tabG [[1,0]])=true:=by decide +kernel
theorem tok3:isA (h12z [[1,2,3,0],[1,0,2,3]]) (tabG [[1,2,3,0],[1,0,2,3]])=true:=by decide +kernel
theorem q9f:∀ p∈ttab,h12z p.1=some (tabG p.1,0,()):=by
 intro p hp;simp only [ttab,List.mem_cons,List.not_mem_nil,or_false] at hp
 rcases hp with rfl | rfl | rfl | rfl | rfl
 ·exact qsf tok0
 ·exact qsf tok1
 ·exact qsf tok2
 ·exact qsf tok3
 ·exact qsf tok4
theorem zag:qqk.goal Tryz.prog (spOf [qij,qpb]) q3n [] lm30:=by
 have e:(∀ (g:List (List Int)),memG g ttab=true→g12z g=some (tabG g,(0:Int),()))=qqk.goal Tryz.prog (spOf [qij,qpb]) q3n [] lm30:=by kernel_rfl
 rw [← e];intro g h;obtain ⟨p,hp,rfl⟩:=q01 h;exact zbu _ _ (q9f p hp)
theorem zf2:qqk.Ok Tryz.prog:=Con.of_goal mixed (okC zco (okC zf9 okN)) qqk zag
end Go.Top
