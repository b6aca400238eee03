/- The cross ratio: the law as a contract. -/
import Derived.Test.YtffapeomfjfedaaC7
set_option linter.unusedVariables false
set_option linter.unusedSimpArgs false
namespace Go.Arcs
open Go Go.Ab Go.Proofs

theorem goal5 : con5.goal Try.prog (spOf [con27, con21, con22, con28, con29]) g5_sh [] lm30 := by
  have e : (∀ (p : Int) (l : QuadD), g5 p l = some (true, ())) = con5.goal Try.prog (spOf [con27, con21, con22, con28, con29]) g5_sh [] lm30 := by kernel_rfl
  rw [← e]
  intro p l
  obtain ⟨a, b, c, d, u⟩ := l
  cases u
  have hs : small [a, b, c, d] := by simp [small]
  unfold g5
  simp only
  rw [gd_pos (by omega), gd_pos (by omega), gd_pos (by omega), gd_pos (by omega), gd_pos (by omega), gd_pos hs]
  by_cases hall : (isPb p && List.all [a, b, c, d] (inPt p)) = true
  · have hall' := hall
    simp only [List.all_cons, List.all_nil, Bool.and_true, Bool.and_eq_true] at hall'
    obtain ⟨hp, ha, hb, hc, hd⟩ := hall'
    have hP := isPb_iff.1 hp
    have hA : allIn p (a, b, c, d, ()) := ⟨ha, hb, hc, hd⟩
    have hlo : lineF p (a, b, c, d, ()) = okX p a b c d := by
      by_cases q1 : a = b
      · simp [lineF, distF, okX, ieq_d, q1]
      · simp only [lineF, distF, okX, hp, ha, hb, hc, hd, str_on hP ha hb hc q1, str_on hP ha hb hd q1]
        generalize ieq a b = e1
        generalize ieq a c = e2
        generalize ieq a d = e3
        generalize ieq b c = e4
        generalize ieq b d = e5
        generalize ieq c d = e6
        generalize onF p c (joinR p a b) = e7
        generalize onF p d (joinR p a b) = e8
        revert e1 e2 e3 e4 e5 e6 e7 e8
        decide
    rw [hlo]
    by_cases hok : okX p a b c d = true
    · have hX : crossX p a b c d = (ratF p a b c d, 0, ()) := by rw [crossX, if_pos hok]
      have hr : ratF p a b c d = ratL p (a, b, c, d, ()) := by
        simp only [okX, Bool.and_eq_true, Bool.not_eq_true', ieq_d, decide_eq_false_iff_not] at hok
        obtain ⟨⟨⟨⟨⟨⟨⟨⟨_, q1⟩, q2⟩, q3⟩, q4⟩, q5⟩, _⟩, s1⟩, s2⟩ := hok
        exact (ratF_in hP ha hb hc hd q1 q2 q3 q4 q5 s1 s2).2
      rw [hX, hall, hok, hr]
      simp [gd_true, hP, hA, ieq_d]
    · have hX : crossX p a b c d = (0, 2, ()) := by rw [crossX, if_neg hok]
      rw [Bool.not_eq_true] at hok
      rw [hX, hall, hok]
      simp [gd_true, hP, hA, ieq_d]
  · have hok : okX p a b c d = false := by
      rw [← Bool.not_eq_true]
      intro h
      apply hall
      simp only [okX, Bool.and_eq_true] at h
      simp [h]
    have hX : crossX p a b c d = (0, 2, ()) := by rw [crossX, hok]; rfl
    rw [Bool.not_eq_true] at hall
    rw [hX, hall]
    simp [gd_true, ieq_d]
set_option maxRecDepth 100000 in
theorem ok5 : con5.Ok Try.prog := Con.of_goal mixed (okC ok27 (okC ok21 (okC ok22 (okC ok28 (okC ok29 okN))))) con5 goal5

end Go.Arcs
