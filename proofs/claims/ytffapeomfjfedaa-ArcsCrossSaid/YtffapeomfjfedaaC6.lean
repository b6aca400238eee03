/- The cross ratio: every point of a line has parts. -/
import Derived.Test.YtffapeomfjfedaaC5
set_option linter.unusedVariables false
set_option linter.unusedSimpArgs false
namespace Go.Arcs
open Go Go.Ab Go.Proofs

theorem findI_none {X : Type} {q : Int → Option X} : ∀ {n : Nat} {i : Int}, findI q n i = none → ∀ j, i ≤ j → j < i + n → q j = none
  | 0, i, _, j, h1, h2 => by omega
  | n + 1, i, e, j, h1, h2 => by
    rw [findI] at e
    cases hq : q i with
    | some y => rw [hq] at e; cases e
    | none =>
      rw [hq] at e
      by_cases hj : j = i
      · rw [hj]; exact hq
      · exact findI_none (n := n) (i := i + 1) e j (by omega) (by omega)

theorem rng_mem {p a : Int} (h : 0 ≤ a ∧ a < p) : a.toNat ∈ List.range p.toNat := List.mem_range.2 (by omega)

theorem emod_of_dvd {p s c : Int} (hc : 0 ≤ c ∧ c < p) (h : p ∣ s - c) : s % p = c := by
  rw [← sub0 hc]
  exact Int.emod_eq_zero_of_dvd h

theorem inv_ex {p n : Int} (hp : isP p) (hn : n % p ≠ 0) : ∃ w, p ∣ w * n - 1 := by
  have hb := isP_bd hp
  have h0 := Int.emod_nonneg n (show p ≠ 0 by omega)
  have h1 := Int.emod_lt_of_pos n (show 0 < p by omega)
  have h := inv_tab p (isP_mem hp) _ (rng_mem ⟨h0, h1⟩)
  rw [Int.toNat_of_nonneg h0, Bool.or_eq_true, ieq_iff, ieq_iff] at h
  rcases h with h | h
  · exact absurd h hn
  · refine ⟨invF p (n % p), ?_⟩
    rw [Int.mul_emod, Int.emod_emod_of_dvd n (Int.dvd_refl p), ← Int.mul_emod] at h
    have : (invF p (n % p) * n - 1) % p = 0 := by
      rw [← Int.emod_eq_emod_iff_emod_sub_eq_zero, h]
      exact (Int.emod_eq_of_lt (by omega) (by omega)).symm
    exact Int.dvd_of_emod_eq_zero this

theorem comb_all {p a1 a2 a3 b1 b2 b3 c1 c2 c3 : Int} (hp : isP p) (hn : crossF p (a1, a2, a3, ()) (b1, b2, b3, ()) ≠ (0, 0, 0, ()))
    (hd : dotC p (crossF p (a1, a2, a3, ()) (b1, b2, b3, ())) (c1, c2, c3, ()) = 0) :
    ∃ u v : Int, (0 ≤ u ∧ u < p) ∧ (0 ≤ v ∧ v < p) ∧ p ∣ u * a1 + v * b1 - c1 ∧ p ∣ u * a2 + v * b2 - c2 ∧ p ∣ u * a3 + v * b3 - c3 := by
  have hb := isP_bd hp
  simp only [dotC, crossF] at hd
  have h : p ∣ c1 * (a2 * b3 - a3 * b2) + c2 * (a3 * b1 - a1 * b3) + c3 * (a1 * b2 - a2 * b1) := by
    obtain ⟨n, hn⟩ := Int.dvd_of_emod_eq_zero hd
    have e1 := Int.emod_add_mul_ediv (a2 * b3 - a3 * b2) p
    have e2 := Int.emod_add_mul_ediv (a3 * b1 - a1 * b3) p
    have e3 := Int.emod_add_mul_ediv (a1 * b2 - a2 * b1) p
    exact ⟨n + c1 * ((a2 * b3 - a3 * b2) / p) + c2 * ((a3 * b1 - a1 * b3) / p) + c3 * ((a1 * b2 - a2 * b1) / p), by grind⟩
  by_cases k3 : (a1 * b2 - a2 * b1) % p = 0
  · by_cases k2 : (a3 * b1 - a1 * b3) % p = 0
    · by_cases k1 : (a2 * b3 - a3 * b2) % p = 0
      · exact absurd (by simp only [crossF, k1, k2, k3]) hn
      · obtain ⟨w, hw⟩ := inv_ex hp k1
        obtain ⟨u, v, q1, q2, q3, q4, q5⟩ := comb_ex (p := p) (w := w) (a1 := a2) (a2 := a3) (a3 := a1) (b1 := b2) (b2 := b3) (b3 := b1) (c1 := c2) (c2 := c3) (c3 := c1) (by omega) hw
          (by have e : c2 * (a3 * b1 - a1 * b3) + c3 * (a1 * b2 - a2 * b1) + c1 * (a2 * b3 - a3 * b2) = c1 * (a2 * b3 - a3 * b2) + c2 * (a3 * b1 - a1 * b3) + c3 * (a1 * b2 - a2 * b1) := by omega
              rw [e]; exact h)
        exact ⟨u, v, q1, q2, q5, q3, q4⟩
    · obtain ⟨w, hw⟩ := inv_ex hp k2
      obtain ⟨u, v, q1, q2, q3, q4, q5⟩ := comb_ex (p := p) (w := w) (a1 := a3) (a2 := a1) (a3 := a2) (b1 := b3) (b2 := b1) (b3 := b2) (c1 := c3) (c2 := c1) (c3 := c2) (by omega) hw
        (by have e : c3 * (a1 * b2 - a2 * b1) + c1 * (a2 * b3 - a3 * b2) + c2 * (a3 * b1 - a1 * b3) = c1 * (a2 * b3 - a3 * b2) + c2 * (a3 * b1 - a1 * b3) + c3 * (a1 * b2 - a2 * b1) := by omega
            rw [e]; exact h)
      exact ⟨u, v, q1, q2, q4, q5, q3⟩
  · obtain ⟨w, hw⟩ := inv_ex hp k3
    exact comb_ex (by omega) hw h

theorem qv_some {p : Int} {a b c : TripD} {u v : Int} {r : Int × Int} (h : qv p a b c u v = some r) : cmb p a b u v = c ∧ r = (u, v) := by
  unfold qv at h
  split at h
  · rename_i hd
    cases h
    exact ⟨(deqT_iff _ _).1 hd, rfl⟩
  · cases h

theorem parts_spec {p : Int} (hp : isP p) {A B C : TripD} (hA : A ∈ ptsC p) (hB : B ∈ ptsC p) (hC : C ∈ ptsC p) (hAB : A ≠ B) (hAC : A ≠ C) (hBC : B ≠ C)
    (hs : dotC p (crossF p A B) C = 0) : cmb p A B (partsF p A B C).1 (partsF p A B C).2 = C ∧ (partsF p A B C).1 ≠ 0 ∧ (partsF p A B C).2 ≠ 0 := by
  have hb := isP_bd hp
  have hm := isP_mem hp
  have hx : crossF p A B ≠ (0, 0, 0, ()) := by
    intro h
    have := cross_tab p hm A hA B hB
    rw [h, Bool.or_eq_true, deqT_iff] at this
    rcases this with h | h
    · exact hAB h
    · exact absurd h (by decide)
  have key : cmb p A B (partsF p A B C).1 (partsF p A B C).2 = C := by
    unfold partsF
    rw [partsO_eq]
    cases h : findI (qu p A B C) p.toNat 0 with
    | some r =>
      obtain ⟨P⟩ : Nonempty (cmb p A B r.1 r.2 = C) := ⟨by
        refine findI_mem (P := fun r : Int × Int => cmb p A B r.1 r.2 = C) ?_ h
        intro u x hx
        refine findI_mem (P := fun r : Int × Int => cmb p A B r.1 r.2 = C) ?_ hx
        intro v y hy
        obtain ⟨g1, g2⟩ := qv_some hy
        rw [g2]; exact g1⟩
      exact P
    | none =>
      exfalso
      obtain ⟨a1, a2, a3, _⟩ := A
      obtain ⟨b1, b2, b3, _⟩ := B
      obtain ⟨c1, c2, c3, _⟩ := C
      obtain ⟨u, v, h1, h2, h3, h4, h5⟩ := comb_all hp hx hs
      obtain ⟨r1, r2, r3⟩ := inRb_iff.1 (pts_in p hm _ hC)
      have hu := findI_none h u h1.1 (by omega)
      have hv := findI_none hu v h2.1 (by omega)
      unfold qv at hv
      rw [if_pos] at hv
      · cases hv
      · rw [deqT_iff]
        simp only [cmb]
        rw [emod_of_dvd r1 h3, emod_of_dvd r2 h4, emod_of_dvd r3 h5]
  obtain ⟨hu, hv⟩ := parts_rng hp (a := A) (b := B) (c := C)
  refine ⟨key, ?_, ?_⟩
  · intro h0
    rw [h0] at key
    have := mul_tab p hm B hB C hC _ (rng_mem hv)
    rw [Int.toNat_of_nonneg hv.1] at this
    have e : mulT p (partsF p A B C).2 B = C := Eq.trans (by simp [mulT, cmb]) key
    rw [e, (deqT_iff C C).2 rfl, Bool.not_true, Bool.false_or, deqT_iff] at this
    exact hBC this
  · intro h0
    rw [h0] at key
    have := mul_tab p hm A hA C hC _ (rng_mem hu)
    rw [Int.toNat_of_nonneg hu.1] at this
    have e : mulT p (partsF p A B C).1 A = C := Eq.trans (by simp [mulT, cmb]) key
    rw [e, (deqT_iff C C).2 rfl, Bool.not_true, Bool.false_or, deqT_iff] at this
    exact hAC this

theorem str_on {p a b c : Int} (hp : isP p) (ha : inPt p a = true) (hb : inPt p b = true) (hc : inPt p c = true) (hab : a ≠ b) : strF p a b c = onF p c (joinR p a b) := by
  have hm := isP_mem hp
  rw [← thr_join hp ha hb hab]
  unfold strF onF thrF
  have hx : crossF p (pt p a) (pt p b) ≠ (0, 0, 0, ()) := by
    intro h
    have := cross_tab p hm _ (pt_mem hp ha) _ (pt_mem hp hb)
    rw [h, Bool.or_eq_true] at this
    rcases this with h | h
    · have h2 := pt_ne hp ha hb hab
      unfold deqT at h
      rw [h2] at h
      cases h
    · exact absurd h (by decide)
  have hr := cross_in hp (x := pt p a) (y := pt p b)
  revert hx hr
  generalize crossF p (pt p a) (pt p b) = X
  obtain ⟨x, y, z, _⟩ := X
  intro hx hr
  obtain ⟨h1, h2, h3⟩ := hr
  simp only at h1 h2 h3
  have t1 := low_tab p hm _ (rng_mem h1) _ (rng_mem h2) _ (rng_mem h3)
  have t2 := dot_tab p hm _ (rng_mem h1) _ (rng_mem h2) _ (rng_mem h3) _ (pt_mem hp hc)
  rw [Int.toNat_of_nonneg h1.1, Int.toNat_of_nonneg h2.1, Int.toNat_of_nonneg h3.1] at t1 t2
  rw [Bool.or_eq_true, deqT_iff, deqT_iff] at t1
  rcases t1 with t1 | t1
  · exact absurd t1 hx
  · rw [t1]
    exact beq_iff_eq.1 t2

theorem rat_eq {p u v s t : Int} (hp : isP p) (hu : 0 ≤ u ∧ u < p) (hv : 0 ≤ v ∧ v < p) (hs : 0 ≤ s ∧ s < p) (ht : 0 ≤ t ∧ t < p) (u0 : u ≠ 0) (v0 : v ≠ 0) (s0 : s ≠ 0) (t0 : t ≠ 0) :
    v * s % p ≠ 0 ∧ u * t * invF p (v * s % p) % p = ratR p u v s t := by
  have h := rat_tab p (isP_mem hp) _ (rng_mem hu) _ (rng_mem hv) _ (rng_mem hs) _ (rng_mem ht)
  rw [Int.toNat_of_nonneg hu.1, Int.toNat_of_nonneg hv.1, Int.toNat_of_nonneg hs.1, Int.toNat_of_nonneg ht.1] at h
  simpa [ieq_d, u0, v0, s0, t0] using h

end Go.Arcs
