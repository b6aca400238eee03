/- Table and Split,reckoned. -/
import Derived.Test.YtieimmiiaabpgaaGreatXN
set_option linter.unusedVariables false
set_option linter.unusedSimpArgs false
set_option maxRecDepth 100000
namespace Go.Top
open Go Go.Ab Go.Proofs Go.Schur
theorem tok0:isA (h12z [[0],[0]]) (tabG [[0],[0]])=true:=by decide +kernel
theorem tok1:isA (h12z [[1,0],[1,0]]) (tabG [[1,0],[1,0]])=true:=by decide +kernel
theorem tok2:isA (h12z [[1,2,0],[1,0,2]]) (tabG [[1,2,0],[1,0,2]])=true:=by decide +kernel
theorem tok4:isA (h12z [[1,0]]) (tabG [[1,0]])=true:=by decide +kernel
theorem sok0:isB (h17z [[0],[0]] (spl [[0],[0]]).1) (spl [[0],[0]]).2=true:=by decide +kernel
theorem sok1:isB (h17z [[1,0],[1,0]] (spl [[1,0],[1,0]]).1) (spl [[1,0],[1,0]]).2=true:=by decide +kernel
theorem sok2:isB (h17z [[1,2,0],[1,0,2]] (spl [[1,2,0],[1,0,2]]).1) (spl [[1,2,0],[1,0,2]]).2=true:=by decide +kernel
theorem tok3:isA (h12z [[1,2,3,0],[1,0,2,3]]) (tabG [[1,2,3,0],[1,0,2,3]])=true:=by decide +kernel
theorem sok3:isB (h17z [[1,2,3,0],[1,0,2,3]] (spl [[1,2,3,0],[1,0,2,3]]).1) (spl [[1,2,3,0],[1,0,2,3]]).2=true:=by decide +kernel
theorem za8:∀ p∈ttab,h12z p.1=some (tabG p.1,0,()):=by
 intro p hp;simp only [ttab,List.mem_cons,List.not_mem_nil,or_false] at hp
 rcases hp with rfl | rfl | rfl | rfl | rfl
 ·exact qs1 tok0
 ·exact qs1 tok1
 ·exact qs1 tok2
 ·exact qs1 tok3
 ·exact qs1 tok4
theorem q9m:qlu.goal Tryz.prog (spOf [qes,qlt]) q19 [] lm30:=by
 have e:(∀ (g:List (List Int)),memG g ttab=true→g12z g=some (tabG g,(0:Int),()))=qlu.goal Tryz.prog (spOf [qes,qlt]) q19 [] lm30:=by kernel_rfl
 rw [← e];intro g h;obtain ⟨p,hp,rfl⟩:=qvl h;exact q90 _ _ (za8 p hp)
theorem zc4:qlu.Ok Tryz.prog:=Con.of_goal mixed (okC qx6 (okC zdy okN)) qlu q9m
theorem zb4:∀ p∈stab,h17z p.1 (spl p.1).1=some ((spl p.1).2,0,()):=by
 intro p hp;simp only [stab,List.mem_cons,List.not_mem_nil,or_false] at hp
 rcases hp with rfl | rfl | rfl | rfl
 ·exact qv5 sok0
 ·exact qv5 sok1
 ·exact qv5 sok2
 ·exact qv5 sok3
theorem zar:qpx.goal Tryz.prog (spOf [qes,qlt,qqo,qp2]) q21 [] lm30:=by
 have e:(∀ (g:List (List Int)) (f:List Int),(memG g stab=true∧eqL ieq f (spl g).1=true)→g17z g f=some ((spl g).2,(0:Int),()))=qpx.goal Tryz.prog (spOf [qes,qlt,qqo,qp2]) q21 [] lm30:=by kernel_rfl
 rw [← e];rintro g f ⟨h,hf⟩;obtain ⟨p,hp,rfl⟩:=qvl h;rw [qkd (fun h=>qdp.1 h) hf]
 exact q81 _ _ _ (zb4 p hp)
theorem zfp:qpx.Ok Tryz.prog:=Con.of_goal mixed (okC qx6 (okC zdy (okC zfh (okC ze7 okN)))) qpx zar
end Go.Top
