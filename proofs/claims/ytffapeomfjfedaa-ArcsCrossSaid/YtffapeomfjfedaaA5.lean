/- Join and Meet, and the reference's Join. -/
import Derived.Test.YtffapeomfjfedaaA4
set_option linter.unusedVariables false
set_option linter.unusedSimpArgs false
namespace Go.Arcs
open Go Go.Ab Go.Proofs

theorem inPt_iff {p a : Int} : inPt p a = true ↔ 0 ≤ a ∧ a < p * p + p + 1 := by simp [inPt]

theorem pt_at {p a : Int} (hp : isP p) (ha : inPt p a = true) : ∃ h : a.toNat < (ptsC p).length, pt p a = (ptsC p)[a.toNat] := by
  have h := inPt_iff.1 ha
  have hl := pts_len p (isP_mem hp)
  refine ⟨by omega, ?_⟩
  rw [pt, getD_at]
theorem pt_mem {p a : Int} (hp : isP p) (ha : inPt p a = true) : pt p a ∈ ptsC p := by
  obtain ⟨h, e⟩ := pt_at hp ha
  rw [e]; exact List.getElem_mem h
theorem pt_in {p a : Int} (hp : isP p) (ha : inPt p a = true) : inR p (pt p a) := inRb_iff.1 (pts_in p (isP_mem hp) _ (pt_mem hp ha))

theorem pl_pts {k : PlaneD} (h : isPl k) : k.2.1 = ptsC k.1 := (congrArg (fun k => k.2.1) h.2).trans (plane_pts k.1 (isP_mem h.1))
theorem pl_num {k : PlaneD} (h : isPl k) {x : TripD} (hx : x ∈ ptsC k.1) : Option.getD (α := Int) (assoc Trip I64 k.2.2.1 x) 0 = numC k.1 x := by
  exact (congrArg (fun (m : List (TripD × Int)) => Option.getD (α := Int) (assoc Trip I64 m x) 0) (congrArg (fun (k : PlaneD) => k.2.2.1) h.2)).trans (plane_num k.1 (isP_mem h.1) x hx)

theorem goal70 : con70.goal Try.prog (spOf [conDotC]) g70_sh [] lm30 := by
  have e : (∀ (k : PlaneD) (a b : Int), isPl k → inPt k.1 a = true → inPt k.1 b = true → g70 k a b = some (onF k.1 a b, ())) = con70.goal Try.prog (spOf [conDotC]) g70_sh [] lm30 := by kernel_rfl
  rw [← e]
  intro k a b hk ha hb
  have hpts := pl_pts hk
  have h1 := inPt_iff.1 ha
  have h2 := inPt_iff.1 hb
  have hl := pts_len k.1 (isP_mem hk.1)
  have ea : List.getD (ptsC k.1) a.toNat (0, 0, 0, ()) = pt k.1 a := rfl
  have eb : List.getD (ptsC k.1) b.toNat (0, 0, 0, ()) = pt k.1 b := rfl
  unfold g70
  rw [hpts, ea, eb, gd_pos (by omega), gd_pos (by omega), gd_pos hk.1, gd_pos (pt_in hk.1 ha), gd_pos (pt_in hk.1 hb)]
  rfl
set_option maxRecDepth 100000 in
theorem ok70 : con70.Ok Try.prog := Con.of_goal mixed (okC okDotC okN) con70 goal70

/-- Different points have different triples. -/
theorem pts_diff : ∀ p ∈ ([2, 3, 5, 7] : List Int), ∀ i ∈ List.range (ptsC p).length, ∀ j ∈ List.range (ptsC p).length, (decide (i = j) || !deq Trip ((ptsC p).getD i (0, 0, 0, ())) ((ptsC p).getD j (0, 0, 0, ()))) = true := by decide +kernel
theorem pt_ne {p a b : Int} (hp : isP p) (ha : inPt p a = true) (hb : inPt p b = true) (hab : a ≠ b) : deq Trip (pt p a) (pt p b) = false := by
  have h1 := inPt_iff.1 ha
  have h2 := inPt_iff.1 hb
  have hl := pts_len p (isP_mem hp)
  have := pts_diff p (isP_mem hp) a.toNat (List.mem_range.2 (by omega)) b.toNat (List.mem_range.2 (by omega))
  have hne : ¬ a.toNat = b.toNat := by omega
  simpa [hne, pt] using this

theorem cross_in {p : Int} (hp : isP p) {x y : TripD} : inR p (crossF p x y) := by
  have hb := isP_bd hp
  have h0 : ∀ n : Int, 0 ≤ n % p ∧ n % p < p := fun n => ⟨Int.emod_nonneg n (by omega), Int.emod_lt_of_pos n (by omega)⟩
  exact ⟨h0 _, h0 _, h0 _⟩

theorem goal68 : con68.goal Try.prog (spOf [conCross, conLow]) g68_sh [] lm30 := by
  have e : (∀ (k : PlaneD) (a b : Int), isPl k → inPt k.1 a = true → inPt k.1 b = true → a ≠ b → g68 k a b = some (thrF k.1 a b, ())) = con68.goal Try.prog (spOf [conCross, conLow]) g68_sh [] lm30 := by kernel_rfl
  rw [← e]
  intro k a b hk ha hb hab
  have hpts := pl_pts hk
  have h1 := inPt_iff.1 ha
  have h2 := inPt_iff.1 hb
  have hl := pts_len k.1 (isP_mem hk.1)
  have ea : List.getD (ptsC k.1) a.toNat (0, 0, 0, ()) = pt k.1 a := rfl
  have eb : List.getD (ptsC k.1) b.toNat (0, 0, 0, ()) = pt k.1 b := rfl
  have hc := pts_cross k.1 (isP_mem hk.1) _ (pt_mem hk.1 ha) _ (pt_mem hk.1 hb)
  rw [pt_ne hk.1 ha hb hab, Bool.false_or, Bool.and_eq_true, List.any_eq_true] at hc
  obtain ⟨hc1, z, hz, hc2⟩ := hc
  have hlow : lowF k.1 (crossF k.1 (pt k.1 a) (pt k.1 b)) ∈ ptsC k.1 := by
    have := (deq_iff (t := Trip) rfl).1 hc2
    rw [this]; exact hz
  unfold g68
  rw [hpts, ea, eb, gd_pos (by omega), gd_pos (by omega), gd_pos hk.1, gd_pos (pt_in hk.1 ha), gd_pos (pt_in hk.1 hb), gd_pos hk.1, gd_pos (cross_in hk.1), gd_pos (notOb_iff.1 hc1), pl_num hk hlow]
  rfl
set_option maxRecDepth 100000 in
theorem ok68 : con68.Ok Try.prog := Con.of_goal mixed (okC okCross (okC okLow okN)) con68 goal68

theorem goal19 : con19.goal Try.prog (spOf [conRead, con68]) g19_sh [] lm30 := by
  have e : (∀ (p a b : Int), g19 p a b = some (joinF p a b)) = con19.goal Try.prog (spOf [conRead, con68]) g19_sh [] lm30 := by kernel_rfl
  rw [← e]
  intro p a b
  have hs : small [a, b] := by simp [small]
  have h1 : (planeF p).1 = p := rfl
  unfold g19
  rw [gd_pos hs]
  by_cases hp : isPb p = true
  · have hpl : isPl (planeF p) := ⟨isPb_iff.1 hp, rfl⟩
    by_cases ha : inPt p a = true <;> by_cases hb : inPt p b = true <;> by_cases hab : a = b
    all_goals first
      | (have h2 := ieq_false.2 hab; simp [readF, joinF, gd_true, hp, ha, hb, hab, h2, h1, hpl]; done)
      | (have h2 := ieq_iff.2 hab; simp [readF, joinF, gd_true, hp, ha, hb, hab, h1, hpl, ieq]; done)
  · simp [readF, joinF, gd_true, hp]
set_option maxRecDepth 100000 in
theorem ok19 : con19.Ok Try.prog := Con.of_goal mixed (okC okRead (okC ok68 okN)) con19 goal19

end Go.Arcs
