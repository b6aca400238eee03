/- The cross ratio: the function, and the law as a contract. -/
import Derived.Test.YtffapeomfjfedaaC6
set_option linter.unusedVariables false
set_option linter.unusedSimpArgs false
namespace Go.Arcs
open Go Go.Ab Go.Proofs

theorem ratF_in {p a b c d : Int} (hp : isP p) (ha : inPt p a = true) (hb : inPt p b = true) (hc : inPt p c = true) (hd : inPt p d = true)
    (hab : a ≠ b) (hac : a ≠ c) (had : a ≠ d) (hbc : b ≠ c) (hbd : b ≠ d) (s1 : strF p a b c = true) (s2 : strF p a b d = true) :
    (partsF p (pt p a) (pt p b) (pt p c)).2 * (partsF p (pt p a) (pt p b) (pt p d)).1 % p ≠ 0 ∧ ratF p a b c d = ratL p (a, b, c, d, ()) := by
  have hne : ∀ {x y : Int}, inPt p x = true → inPt p y = true → x ≠ y → pt p x ≠ pt p y := by
    intro x y hx hy hxy h
    have := pt_ne hp hx hy hxy
    rw [h] at this
    have h2 := (deqT_iff (pt p y) (pt p y)).2 rfl
    unfold deqT at h2
    rw [h2] at this
    cases this
  obtain ⟨_, u0, v0⟩ := parts_spec hp (pt_mem hp ha) (pt_mem hp hb) (pt_mem hp hc) (hne ha hb hab) (hne ha hc hac) (hne hb hc hbc) (ieq_iff.1 s1)
  obtain ⟨_, s0, t0⟩ := parts_spec hp (pt_mem hp ha) (pt_mem hp hb) (pt_mem hp hd) (hne ha hb hab) (hne ha hd had) (hne hb hd hbd) (ieq_iff.1 s2)
  obtain ⟨hu, hv⟩ := parts_rng hp (a := pt p a) (b := pt p b) (c := pt p c)
  obtain ⟨hs, ht⟩ := parts_rng hp (a := pt p a) (b := pt p b) (c := pt p d)
  exact rat_eq hp hu hv hs ht u0 v0 s0 t0

theorem goal27 : con27.goal Try.prog (spOf [conRead, con71, con72, conInv2, conMod]) g27_sh [] lm30 := by
  have e : (∀ (p a b c d : Int), g27 p a b c d = some (crossX p a b c d)) = con27.goal Try.prog (spOf [conRead, con71, con72, conInv2, conMod]) g27_sh [] lm30 := by kernel_rfl
  rw [← e]
  intro p a b c d
  have hs : small [a, b, c, d] := by simp [small]
  unfold g27
  rw [gd_pos hs]
  by_cases hp : isPb p = true
  · have hP := isPb_iff.1 hp
    have hpl : isPl (planeF p) := ⟨hP, rfl⟩
    have h1 : (planeF p).1 = p := rfl
    by_cases hin : (inPt p a && inPt p b && inPt p c && inPt p d) = true
    · have hin' := hin
      simp only [Bool.and_eq_true] at hin
      obtain ⟨⟨⟨ha, hb⟩, hc⟩, hd⟩ := hin
      have hr : readF p [a, b, c, d] = (some (planeF p), true, ()) := by simp [readF, hp, ha, hb, hc, hd]
      by_cases q1 : a = b
      · simp [g27_c0, g27_c1, g27_c2, hr, gd_true, crossX, okX, ieq_d, q1]
      by_cases q2 : a = c
      · simp [g27_c0, g27_c1, g27_c2, hr, gd_true, crossX, okX, ieq_d, q1, q2]
      by_cases q3 : a = d
      · simp [g27_c0, g27_c1, g27_c2, hr, gd_true, crossX, okX, ieq_d, q1, q2, q3]
      by_cases q4 : b = c
      · simp [g27_c0, g27_c1, g27_c2, hr, gd_true, crossX, okX, ieq_d, q1, q2, q3, q4]
      by_cases q5 : b = d
      · simp [g27_c0, g27_c1, g27_c2, hr, gd_true, crossX, okX, ieq_d, q1, q2, q3, q4, q5]
      by_cases q6 : c = d
      · simp [g27_c0, g27_c1, g27_c2, hr, gd_true, crossX, okX, ieq_d, q1, q2, q3, q4, q5, q6]
      by_cases s1 : strF p a b c = true
      · by_cases s2 : strF p a b d = true
        · obtain ⟨n0, _⟩ := ratF_in hP ha hb hc hd q1 q2 q3 q4 q5 s1 s2
          have hb7 := isP_bd hP
          obtain ⟨hu, hv⟩ := parts_rng hP (a := pt p a) (b := pt p b) (c := pt p c)
          obtain ⟨hs, ht⟩ := parts_rng hP (a := pt p a) (b := pt p b) (c := pt p d)
          have hinv : 1 ≤ invF p ((partsF p (pt p a) (pt p b) (pt p c)).2 * (partsF p (pt p a) (pt p b) (pt p d)).1 % p) ∧ invF p ((partsF p (pt p a) (pt p b) (pt p c)).2 * (partsF p (pt p a) (pt p b) (pt p d)).1 % p) ≤ 6 := by
            have e0 := Int.emod_nonneg ((partsF p (pt p a) (pt p b) (pt p c)).2 * (partsF p (pt p a) (pt p b) (pt p d)).1) (show p ≠ 0 by omega)
            have e1 := Int.emod_lt_of_pos ((partsF p (pt p a) (pt p b) (pt p c)).2 * (partsF p (pt p a) (pt p b) (pt p d)).1) (show 0 < p by omega)
            have := inv_spec hP (n := (partsF p (pt p a) (pt p b) (pt p c)).2 * (partsF p (pt p a) (pt p b) (pt p d)).1 % p) ⟨by omega, by omega⟩
            exact ⟨this.1, this.2.1⟩
          have b1 := mul_bd (c := 7) (a := (partsF p (pt p a) (pt p b) (pt p c)).2) (b := (partsF p (pt p a) (pt p b) (pt p d)).1) (by omega) (by omega)
          have b2 := mul_bd (c := 7) (a := (partsF p (pt p a) (pt p b) (pt p c)).1) (b := (partsF p (pt p a) (pt p b) (pt p d)).2) (by omega) (by omega)
          have b3 := mul_bd (c := 49) (a := (partsF p (pt p a) (pt p b) (pt p c)).1 * (partsF p (pt p a) (pt p b) (pt p d)).2) (b := invF p ((partsF p (pt p a) (pt p b) (pt p c)).2 * (partsF p (pt p a) (pt p b) (pt p d)).1 % p)) (by omega) (by omega)
          have hpts : (planeF p).2.1 = ptsC p := plane_pts p (isP_mem hP)
          have h57 := pts_len p (isP_mem hP)
          have i1 := inPt_iff.1 ha
          have i2 := inPt_iff.1 hb
          have i3 := inPt_iff.1 hc
          have i4 := inPt_iff.1 hd
          have l1 : a < ((ptsC p).length : Int) := by omega
          have l2 : b < ((ptsC p).length : Int) := by omega
          have l3 : c < ((ptsC p).length : Int) := by omega
          have l4 : d < ((ptsC p).length : Int) := by omega
          have ea : List.getD (ptsC p) a.toNat (0, 0, 0, ()) = pt p a := rfl
          have eb : List.getD (ptsC p) b.toNat (0, 0, 0, ()) = pt p b := rfl
          have ec : List.getD (ptsC p) c.toNat (0, 0, 0, ()) = pt p c := rfl
          have ed : List.getD (ptsC p) d.toNat (0, 0, 0, ()) = pt p d := rfl
          have hk : p ≠ 0 := by omega
          have hok : okX p a b c d = true := by simp [okX, ieq_d, hp, ha, hb, hc, hd, q1, q2, q3, q4, q5, q6, s1, s2]
          have hX : crossX p a b c d = (ratF p a b c d, 0, ()) := by rw [crossX, if_pos hok]
          rw [hX]
          simp only [g27_c0, g27_c1, g27_c2, g27_c3, g27_c4, g27_c5, g27_c6, g27_c7, g27_c8, hr, Option.getD_some, Option.isSome_some, h1, hpts, ea, eb, ec, ed]
          have w1 : wr .i64 ((partsF p (pt p a) (pt p b) (pt p c)).2 * (partsF p (pt p a) (pt p b) (pt p d)).1) = (partsF p (pt p a) (pt p b) (pt p c)).2 * (partsF p (pt p a) (pt p b) (pt p d)).1 := wr_id (by omega)
          have w2 : wr .i64 ((partsF p (pt p a) (pt p b) (pt p c)).1 * (partsF p (pt p a) (pt p b) (pt p d)).2) = (partsF p (pt p a) (pt p b) (pt p c)).1 * (partsF p (pt p a) (pt p b) (pt p d)).2 := wr_id (by omega)
          simp only [w1, w2]
          have w3 : wr .i64 ((partsF p (pt p a) (pt p b) (pt p c)).1 * (partsF p (pt p a) (pt p b) (pt p d)).2 * invF p ((partsF p (pt p a) (pt p b) (pt p c)).2 * (partsF p (pt p a) (pt p b) (pt p d)).1 % p)) = (partsF p (pt p a) (pt p b) (pt p c)).1 * (partsF p (pt p a) (pt p b) (pt p d)).2 * invF p ((partsF p (pt p a) (pt p b) (pt p c)).2 * (partsF p (pt p a) (pt p b) (pt p d)).1 % p) := wr_id (by omega)
          have ra := pt_in hP ha
          have rb := pt_in hP hb
          have rc := pt_in hP hc
          have rd := pt_in hP hd
          have n1 : -1000 ≤ (partsF p (pt p a) (pt p b) (pt p c)).2 * (partsF p (pt p a) (pt p b) (pt p d)).1 := by omega
          have n2 : (partsF p (pt p a) (pt p b) (pt p c)).2 * (partsF p (pt p a) (pt p b) (pt p d)).1 ≤ 1000 := by omega
          rw [w3, modF_eq (by omega)]
          simp [gd_true, ieq_d, q1, q2, q3, q4, q5, q6, s1, s2, ha, hb, hc, hd, hpl, hP, ra, rb, rc, rd, i1.1, i2.1, i3.1, i4.1, l1, l2, l3, l4, hk, n0, n1, n2, ratF]
        · simp [g27_c0, g27_c1, g27_c2, hr, gd_true, crossX, okX, ieq_d, q1, q2, q3, q4, q5, q6, s1, s2, h1, hpl, ha, hb, hc, hd]
      · simp [g27_c0, g27_c1, g27_c2, hr, gd_true, crossX, okX, ieq_d, q1, q2, q3, q4, q5, q6, s1, h1, hpl, ha, hb, hc, hd]
    · have hin' : (inPt p a && inPt p b && inPt p c && inPt p d) = false := by simpa using hin
      have hr : readF p [a, b, c, d] = (some (planeF p), false, ()) := by
        rw [readF, if_pos hp]
        have : List.all [a, b, c, d] (inPt p) = false := by rw [← hin']; simp [Bool.and_assoc]
        rw [this]
      have hx : okX p a b c d = false := by
        unfold okX
        rw [hp, Bool.true_and, hin']
        simp
      simp [g27_c0, g27_c1, g27_c2, hr, gd_true, crossX, hx]
  · have hr : readF p [a, b, c, d] = (none, false, ()) := by rw [readF, if_neg hp]
    have hx : okX p a b c d = false := by unfold okX; rw [Bool.not_eq_true] at hp; rw [hp]; simp
    simp [g27_c0, g27_c1, g27_c2, hr, gd_true, crossX, hx]
set_option maxRecDepth 100000 in
theorem ok27 : con27.Ok Try.prog := Con.of_goal mixed (okC okRead (okC ok71 (okC ok72 (okC okInv2 (okC okMod okN))))) con27 goal27

end Go.Arcs
