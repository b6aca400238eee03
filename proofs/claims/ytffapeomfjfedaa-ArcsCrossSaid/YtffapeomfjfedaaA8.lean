/- The law ArcsJoins as a contract. -/
import Derived.Test.YtffapeomfjfedaaA7
set_option linter.unusedVariables false
set_option linter.unusedSimpArgs false
namespace Go.Arcs
open Go Go.Ab Go.Proofs

set_option maxRecDepth 100000 in
theorem ok32 : con32.Ok Try.prog := Con.of_goal mixed (okC ok31 (okC ok77 okN)) con32 goal32
set_option maxRecDepth 100000 in
theorem ok23 : con23.Ok Try.prog := Con.of_goal mixed (okC ok69 (okC ok32 okN)) con23 goal23

theorem thr_join {p a b : Int} (hp : isP p) (ha : inPt p a = true) (hb : inPt p b = true) (hab : a ≠ b) : thrF p a b = joinR p a b := by
  have h := join_tab p (isP_mem hp) _ (pt_mem hp ha) _ (pt_mem hp hb)
  rw [pt_ne hp ha hb hab, Bool.false_or] at h
  exact ieq_iff.1 h

theorem goal3 : con3.goal Try.prog (spOf [con19, con20, con21, con22, con23]) g3_sh [] lm30 := by
  have e : (∀ (p a b : Int), g3 p a b = some (true, ())) = con3.goal Try.prog (spOf [con19, con20, con21, con22, con23]) g3_sh [] lm30 := by kernel_rfl
  rw [← e]
  intro p a b
  have hs : small [a, b] := by simp [small]
  unfold g3
  rw [gd_pos hs]
  by_cases hp : isPb p = true
  · have hP := isPb_iff.1 hp
    by_cases ha : inPt p a = true <;> by_cases hb : inPt p b = true <;> by_cases hab : a = b
    all_goals first
      | (have ht := thr_join hP ha hb hab; simp [joinF, gd_true, hp, ha, hb, hab, ieq_d, hP, ht]; done)
      | (simp [joinF, gd_true, hp, ha, hb, hab, ieq_d, hP]; done)
  · simp [joinF, gd_true, hp, ieq_d]
set_option maxRecDepth 100000 in
theorem ok3 : con3.Ok Try.prog := Con.of_goal mixed (okC ok19 (okC ok20 (okC ok21 (okC ok22 (okC ok23 okN))))) con3 goal3

end Go.Arcs
