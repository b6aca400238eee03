/- The reference's side of Join; the law ArcsJoins as a contract. -/
import Derived.Test.YtffapeomfjfedaaA5
set_option linter.unusedVariables false
set_option linter.unusedSimpArgs false
namespace Go.Arcs
open Go Go.Ab Go.Proofs

theorem goal20 : con20.goal Try.prog (spOf [con19]) g20_sh [] lm30 := by
  have e : (∀ (p a b : Int), g20 p a b = some (joinF p a b)) = con20.goal Try.prog (spOf [con19]) g20_sh [] lm30 := by kernel_rfl
  rw [← e]
  exact fun p a b => rfl
set_option maxRecDepth 100000 in
theorem ok20 : con20.Ok Try.prog := Con.of_goal mixed (okC ok19 okN) con20 goal20

theorem goal25 : con25.goal Try.prog (spOf []) g25_sh [] lm30 := by
  have e : (∀ (p : Int), g25 p = some (isPb p, ())) = con25.goal Try.prog (spOf []) g25_sh [] lm30 := by kernel_rfl
  rw [← e]
  intro p
  by_cases h2 : p = 2 <;> by_cases h3 : p = 3 <;> by_cases h5 : p = 5 <;> by_cases h7 : p = 7 <;> simp [g25, isPb, gd_true, ieq, h2, h3, h5, h7]
set_option maxRecDepth 100000 in
theorem ok25 : con25.Ok Try.prog := Con.of_goal mixed okN con25 goal25

theorem goal69 : con69.goal Try.prog (spOf []) g69_sh [] lm30 := by
  have e : (∀ (p : Int), isP p → g69 p = some (p * p + p + 1, ())) = con69.goal Try.prog (spOf []) g69_sh [] lm30 := by kernel_rfl
  rw [← e]
  intro p hp
  rcases hp with rfl | rfl | rfl | rfl <;> decide
set_option maxRecDepth 100000 in
theorem ok69 : con69.Ok Try.prog := Con.of_goal mixed okN con69 goal69

theorem goal50 : con50.goal Try.prog (spOf [con69]) g50_sh [] lm30 := by
  have e : (∀ (p n : Int), isP p → g50 p n = some (inPt p n, ())) = con50.goal Try.prog (spOf [con69]) g50_sh [] lm30 := by kernel_rfl
  rw [← e]
  intro p n hp
  by_cases h : 0 ≤ n <;> simp [g50, gd_true, hp, inPt, ile, ilt, h]
set_option maxRecDepth 100000 in
theorem ok50 : con50.Ok Try.prog := Con.of_goal mixed (okC ok69 okN) con50 goal50

theorem goal21 : con21.goal Try.prog (spOf [con25, con50]) g21_sh [] lm30 := by
  have e : (∀ (p : Int) (l : List Int), small l → g21 p l = some (isPb p && l.all (inPt p), ())) = con21.goal Try.prog (spOf [con25, con50]) g21_sh [] lm30 := by kernel_rfl
  rw [← e]
  intro p l hs
  unfold small at hs
  unfold g21
  by_cases hp : isPb p = true
  · have hP := isPb_iff.1 hp
    rw [cond_f (by rw [hp]; rfl), hp, Bool.true_and]
    refine whileO_rec (fun (d : Int × Unit) => 0 ≤ d.1 ∧ d.1 ≤ l.length) (fun (d : Int × Unit) => l.length - d.1.toNat) (fun (d : Int × Unit) => ((l.drop d.1.toNat).all (inPt p), ())) ?_ ((0 : Int), ()) ⟨by omega, by omega⟩
    rintro ⟨i, _⟩ ⟨h0, h1⟩
    simp only at h0 h1 ⊢
    by_cases hlt : i < l.length
    · have hn : i.toNat < l.length := by omega
      have ht : (i + 1).toNat = i.toNat + 1 := by omega
      rw [cond_t (ilt_iff.2 hlt), gd_pos ⟨h0, hlt⟩, gd_pos hP, getD_at hn, List.drop_eq_getElem_cons hn, List.all_cons]
      by_cases hz : inPt p l[i.toNat] = true
      · right
        refine ⟨_, by rw [hz, Bool.not_true, cond_f rfl, wr_id (by omega)], ⟨by simp only; omega, by simp only; omega⟩, by simp only; omega, ?_⟩
        simp only [ht, hz, Bool.true_and]
      · left
        have hz' : inPt p l[i.toNat] = false := by simpa using hz
        rw [hz', Bool.not_false, cond_t rfl, Bool.false_and]
    · left
      have : i.toNat = l.length := by omega
      rw [cond_f (ilt_false.2 (by omega)), this, List.drop_length]
      rfl
  · have hp' : isPb p = false := by simpa using hp
    rw [hp', Bool.not_false, cond_t rfl, Bool.false_and]
set_option maxRecDepth 100000 in
theorem ok21 : con21.Ok Try.prog := Con.of_goal mixed (okC ok25 (okC ok50 okN)) con21 goal21

theorem goal77 : con77.goal Try.prog (spOf []) g77_sh [] lm30 := by
  have e : (∀ (p : Int) (x y : TripD), isP p → inR p x → inR p y → g77 p x y = some (ieq (dotC p x y) 0, ())) = con77.goal Try.prog (spOf []) g77_sh [] lm30 := by kernel_rfl
  rw [← e]
  intro p x y hp hx hy
  have hb := isP_bd hp
  obtain ⟨x1, x2, x3, _⟩ := x
  obtain ⟨y1, y2, y3, _⟩ := y
  obtain ⟨h1, h2, h3⟩ := hx
  obtain ⟨g1, g2, g3⟩ := hy
  simp only at h1 h2 h3 g1 g2 g3
  have b1 := mul_bd (c := 6) (a := x1) (b := y1) (by omega) (by omega)
  have b2 := mul_bd (c := 6) (a := x2) (b := y2) (by omega) (by omega)
  have b3 := mul_bd (c := 6) (a := x3) (b := y3) (by omega) (by omega)
  have hk : p ≠ 0 := by omega
  simp (disch := omega) only [g77, gd_pos hk, gd_true, gd_pos, wr_id, dotC]
  rw [Int.tmod_eq_emod_of_nonneg (by omega)]
set_option maxRecDepth 100000 in
theorem ok77 : con77.Ok Try.prog := Con.of_goal mixed okN con77 goal77

theorem goal32 : con32.goal Try.prog (spOf [con31, con77]) g32_sh [] lm30 := by
  have e : (∀ (p a b : Int), isP p → inPt p a = true → inPt p b = true → g32 p a b = some (onF p a b, ())) = con32.goal Try.prog (spOf [con31, con77]) g32_sh [] lm30 := by kernel_rfl
  rw [← e]
  intro p a b hp ha hb
  have h1 := inPt_iff.1 ha
  have h2 := inPt_iff.1 hb
  have hl := pts_len p (isP_mem hp)
  have ea : List.getD (ptsC p) a.toNat (0, 0, 0, ()) = pt p a := rfl
  have eb : List.getD (ptsC p) b.toNat (0, 0, 0, ()) = pt p b := rfl
  unfold g32
  rw [ea, eb, gd_pos hp, gd_pos (by omega), gd_pos (by omega), gd_pos hp, gd_pos (pt_in hp ha), gd_pos (pt_in hp hb)]
  rfl

theorem goal23 : con23.goal Try.prog (spOf [con69, con32]) g23_sh [] lm30 := by
  have e : (∀ (p a b : Int), isP p → inPt p a = true → inPt p b = true → g23 p a b = some (joinR p a b, ())) = con23.goal Try.prog (spOf [con69, con32]) g23_sh [] lm30 := by kernel_rfl
  rw [← e]
  intro p a b hp ha hb
  have hl := pts_len p (isP_mem hp)
  have hb2 := isP_bd hp
  have h343 : p * p ≤ 49 := by rcases hp with rfl | rfl | rfl | rfl <;> decide
  unfold g23
  rw [gd_pos hp]
  refine whileO_rec (fun (d : Int × Unit) => 0 ≤ d.1 ∧ d.1 ≤ p * p + p + 1) (fun (d : Int × Unit) => (p * p + p + 1 - d.1).toNat) (fun (d : Int × Unit) => (ixA (bothF p (pt p a) (pt p b)) ((ptsC p).drop d.1.toNat) d.1, ())) ?_ ((0 : Int), ()) ⟨by simp only; omega, by simp only; omega⟩
  rintro ⟨i, _⟩ ⟨h0, h1⟩
  simp only at h0 h1 ⊢
  by_cases hlt : i < p * p + p + 1
  · have hn : i.toNat < (ptsC p).length := by omega
    have ht : (i + 1).toNat = i.toNat + 1 := by omega
    have hi : inPt p i = true := inPt_iff.2 ⟨h0, hlt⟩
    have hpt : pt p i = (ptsC p)[i.toNat] := (pt_at hp hi).2
    rw [cond_t (ilt_iff.2 hlt), gd_pos hp, gd_pos ha, gd_pos hi, gd_pos (fun h => ⟨h, h, h, hp, hb, hi⟩), gd_pos (fun h => h), List.drop_eq_getElem_cons hn]
    have hboth : bothF p (pt p a) (pt p b) (ptsC p)[i.toNat] = (onF p a i && onF p b i) := by rw [← hpt]; rfl
    by_cases h3 : onF p a i = true <;> by_cases h4 : onF p b i = true
    · left; simp [h3, h4, ixA, hboth]
    all_goals
      right
      refine ⟨((i + 1, ()) : Int × Unit), by simp [h3, h4, wr_id (n := i + 1) (by omega)], ⟨by simp only; omega, by simp only; omega⟩, by simp only; omega, ?_⟩
      simp [ixA, hboth, h3, h4, ht]
  · left
    have : i.toNat = (ptsC p).length := by omega
    rw [cond_f (ilt_false.2 (by omega)), this, List.drop_length]
    rfl

theorem goal22 : con22.goal Try.prog (spOf [con19]) g22_sh [] lm30 := by
  have e : (g22 = some (true, ())) = con22.goal Try.prog (spOf [con19]) g22_sh [] lm30 := by kernel_rfl
  rw [← e]
  have h : joinF 2 0 1 = (3, 0, ()) := by decide +kernel
  unfold g22
  rw [h]
  simp [gd_true, ieq]
set_option maxRecDepth 100000 in
theorem ok22 : con22.Ok Try.prog := Con.of_goal mixed (okC ok19 okN) con22 goal22

end Go.Arcs
