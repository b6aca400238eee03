/- The cross ratio: the inverse of any number, the reference's multiples and its ratio. -/
import Derived.Test.YtffapeomfjfedaaC2
set_option linter.unusedVariables false
set_option linter.unusedSimpArgs false
namespace Go.Arcs
open Go Go.Ab Go.Proofs

theorem goalInv2 : conInv2.goal Try.prog (spOf [conMod]) g74_sh [] lm30 := by
  have e : (∀ (k : PlaneD) (n : Int), isP k.1 → n % k.1 ≠ 0 → (-1000 ≤ n ∧ n ≤ 1000) → g74 k n = some (invF k.1 (n % k.1), ())) = conInv2.goal Try.prog (spOf [conMod]) g74_sh [] lm30 := by kernel_rfl
  rw [← e]
  intro k n hp hn hb
  have h2 := isP_bd hp
  have hr : rngP k.1 (n % k.1) := by
    have := Int.emod_nonneg n (show k.1 ≠ 0 by omega)
    have := Int.emod_lt_of_pos n (show 0 < k.1 by omega)
    have := Int.emod_eq_of_lt (a := n % k.1) (b := k.1) (by omega) (by omega)
    unfold rngP
    omega
  obtain ⟨g1, g2, g3⟩ := inv_spec hp hr
  have g4 : ∀ x, 1 ≤ x → x ≤ invF k.1 (n % k.1) → ieq (modF k.1 (wr .i64 (x * n))) 1 = ieq x (invF k.1 (n % k.1)) := by
    intro x h1 hx
    rw [← g3 x h1 hx, modF_eq (by omega), modF_eq (by omega)]
    have b1 : -6000 ≤ x * n ∧ x * n ≤ 6000 := by
      have : x = 1 ∨ x = 2 ∨ x = 3 ∨ x = 4 ∨ x = 5 ∨ x = 6 := by omega
      rcases this with rfl | rfl | rfl | rfl | rfl | rfl <;> omega
    have b2 := mul_bd (c := 7) (a := x) (b := n % k.1) (by omega) ⟨Int.emod_nonneg n (by omega), by have := Int.emod_lt_of_pos n (show 0 < k.1 by omega); omega⟩
    rw [wr_id (by omega), wr_id (by omega)]
    have : x * (n % k.1) % k.1 = x * n % k.1 := by simp [Int.mul_emod]
    rw [this]
  unfold g74
  refine whileO_rec (fun (d : Int × Unit) => 1 ≤ d.1 ∧ d.1 ≤ invF k.1 (n % k.1)) (fun (d : Int × Unit) => (invF k.1 (n % k.1) - d.1).toNat) (fun (d : Int × Unit) => (invF k.1 (n % k.1), ())) ?_ ((1 : Int), ()) ⟨by omega, by simp only; omega⟩
  rintro ⟨i, _⟩ ⟨h0, h1⟩
  simp only at h0 h1 ⊢
  rw [gd_pos (by omega), g4 i h0 h1]
  by_cases he : i = invF k.1 (n % k.1)
  · left
    rw [cond_f (by simp [ieq, he]), he]
  · right
    refine ⟨_, by rw [cond_t (by simp [ieq, he]), wr_id (by omega)], ⟨by simp only; omega, by simp only; omega⟩, by simp only; omega, by trivial⟩
set_option maxRecDepth 100000 in
theorem okInv2 : conInv2.Ok Try.prog := Con.of_goal mixed (okC okMod okN) conInv2 goalInv2

theorem tmod0 {n p : Int} : Int.tmod n p = 0 ↔ n % p = 0 :=
  ⟨fun h => Int.emod_eq_zero_of_dvd (Int.dvd_of_tmod_eq_zero h), fun h => Int.tmod_eq_zero_of_dvd (Int.dvd_of_emod_eq_zero h)⟩
theorem sub0 {s z p : Int} (hz : 0 ≤ z ∧ z < p) : (s - z) % p = 0 ↔ s % p = z := by
  rw [← Int.emod_eq_emod_iff_emod_sub_eq_zero, Int.emod_eq_of_lt hz.1 hz.2]

theorem in75 {p a b c u v : Int} (hp : isP p) (ha : inPt p a = true) (hb : inPt p b = true) (hc : inPt p c = true) (hu : 0 ≤ u ∧ u < p) (hv : 0 ≤ v ∧ v < p) :
    whileO (g75_l0 p a b c (u, ()) (v, ())) (true, 0, ()) = some (pick (qv p (pt p a) (pt p b) (pt p c) u v) (fun r => Lp.out (Lp.out (r.1, r.2, ()))) (Lp.go (v + 1, ()))) := by
  have hbd := isP_bd hp
  have hk : p ≠ 0 := by omega
  have h1 := inPt_iff.1 ha
  have h2 := inPt_iff.1 hb
  have h3 := inPt_iff.1 hc
  have hl := pts_len p (isP_mem hp)
  have ea : List.getD (ptsC p) a.toNat (0, 0, 0, ()) = pt p a := rfl
  have eb : List.getD (ptsC p) b.toNat (0, 0, 0, ()) = pt p b := rfl
  have ec : List.getD (ptsC p) c.toNat (0, 0, 0, ()) = pt p c := rfl
  have ra := pt_in hp ha
  have rb := pt_in hp hb
  have rc := pt_in hp hc
  revert ea eb ec ra rb rc
  generalize pt p a = A
  generalize pt p b = B
  generalize pt p c = C
  intro ea eb ec ra rb rc
  obtain ⟨a1, a2, a3, _⟩ := A
  obtain ⟨b1, b2, b3, _⟩ := B
  obtain ⟨c1, c2, c3, _⟩ := C
  obtain ⟨ha1, ha2, ha3⟩ := ra
  obtain ⟨hb1, hb2, hb3⟩ := rb
  obtain ⟨hc1, hc2, hc3⟩ := rc
  simp only at ha1 ha2 ha3 hb1 hb2 hb3 hc1 hc2 hc3
  have t : ∀ x y z : Int, 0 ≤ x ∧ x < p → 0 ≤ y ∧ y < p → 0 ≤ z ∧ z < p → ieq (Int.tmod (wr .i64 (wr .i64 (wr .i64 (u * x) + wr .i64 (v * y)) - z)) p) 0 = ieq ((u * x + v * y) % p) z := by
    intro x y z hx hy hz
    have b1 := mul_bd (c := 7) (a := u) (b := x) (by omega) (by omega)
    have b2 := mul_bd (c := 7) (a := v) (b := y) (by omega) (by omega)
    rw [wr_id (n := u * x) (by omega), wr_id (n := v * y) (by omega), wr_id (n := u * x + v * y) (by omega), wr_id (by omega)]
    rw [Bool.eq_iff_iff, ieq_iff, ieq_iff, tmod0, sub0 hz]
  have t1 := t a1 b1 c1 ha1 hb1 hc1
  have t2 := t a2 b2 c2 ha2 hb2 hc2
  have t3 := t a3 b3 c3 ha3 hb3 hc3
  have wv : wr .i64 (v + 1) = v + 1 := wr_id (by omega)
  have la : a < (List.length (ptsC p) : Int) := by omega
  have lb : b < (List.length (ptsC p) : Int) := by omega
  have lc : c < (List.length (ptsC p) : Int) := by omega
  refine (whileO_go (s' := (ieq ((u * a1 + v * b1) % p) c1, (1 : Int), ())) ?_).trans ?_
  · simp only [g75_l0, ea, eb, ec]
    simp [ilt, gd_true, hk, arrGet, id, t1, w1, h1.1, h2.1, h3.1, la, lb, lc]
  refine (whileO_go (s' := (ieq ((u * a1 + v * b1) % p) c1 && ieq ((u * a2 + v * b2) % p) c2, (2 : Int), ())) ?_).trans ?_
  · simp only [g75_l0, ea, eb, ec]
    simp [ilt, gd_true, hk, arrGet, id, t2, w2, h1.1, h2.1, h3.1, la, lb, lc]
  refine (whileO_go (s' := (ieq ((u * a1 + v * b1) % p) c1 && ieq ((u * a2 + v * b2) % p) c2 && ieq ((u * a3 + v * b3) % p) c3, (3 : Int), ())) ?_).trans ?_
  · simp only [g75_l0, ea, eb, ec]
    simp [ilt, gd_true, hk, arrGet, id, t3, w3, h1.1, h2.1, h3.1, la, lb, lc]
  refine whileO_out ?_
  have hd : deqT (cmb p (a1, a2, a3, ()) (b1, b2, b3, ()) u v) (c1, c2, c3, ()) = (ieq ((u * a1 + v * b1) % p) c1 && ieq ((u * a2 + v * b2) % p) c2 && ieq ((u * a3 + v * b3) % p) c3) := by
    simp [deqT, cmb, deq, Bool.and_assoc]
  unfold qv
  rw [hd]
  cases (ieq ((u * a1 + v * b1) % p) c1 && ieq ((u * a2 + v * b2) % p) c2 && ieq ((u * a3 + v * b3) % p) c3) <;> simp [g75_l0, ilt, gd_true, pick, wv]

theorem goal75 : con75.goal Try.prog (spOf [con31]) g75_sh [] lm30 := by
  have e : (∀ (p a b c : Int), isP p → inPt p a = true → inPt p b = true → inPt p c = true → g75 p a b c = some ((partsF p (pt p a) (pt p b) (pt p c)).1, (partsF p (pt p a) (pt p b) (pt p c)).2, ())) = con75.goal Try.prog (spOf [con31]) g75_sh [] lm30 := by kernel_rfl
  rw [← e]
  intro p a b c hp ha hb hc
  have hbd := isP_bd hp
  unfold g75 partsF
  rw [partsO_eq, gd_pos hp]
  refine (find_loop (p := p) (fun u => ((u, ()) : Int × Unit)) (qu p (pt p a) (pt p b) (pt p c)) (fun r => ((r.1, r.2, ()) : Int × Int × Unit)) ((0 : Int), (0 : Int), ()) (by omega) ?_ ?_).trans ?_
  · intro u h0 hu
    simp only
    rw [cond_t (ilt_iff.2 hu)]
    have wu : wr .i64 (u + 1) = u + 1 := wr_id (by omega)
    refine (find_loop (p := p) (fun v => ((v, ()) : Int × Unit)) (qv p (pt p a) (pt p b) (pt p c) u) (fun r => Lp.out ((r.1, r.2, ()) : Int × Int × Unit)) (Lp.go ((u + 1, ()) : Int × Unit)) (by omega) ?_ ?_).trans ?_
    · intro v hv0 hv
      unfold g75_l1
      rw [cond_t (ilt_iff.2 hv)]
      exact in75 hp ha hb hc ⟨h0, hu⟩ ⟨hv0, hv⟩
    · unfold g75_l1
      rw [cond_f (ilt_false.2 (Int.le_refl _))]
      simp only [wu]
    · rfl
  · simp only
    rw [cond_f (ilt_false.2 (Int.le_refl _))]
  · cases findI (qu p (pt p a) (pt p b) (pt p c)) p.toNat 0 <;> rfl
set_option maxRecDepth 100000 in
theorem ok75 : con75.Ok Try.prog := Con.of_goal mixed (okC ok31 okN) con75 goal75

def qx (p u v s t : Int) (x : Int) : Option Int := if (x * v * s - u * t) % p = 0 then some x else none

theorem findI_mem {X : Type} {q : Int → Option X} {P : X → Prop} (h : ∀ i x, q i = some x → P x) : ∀ {n : Nat} {i : Int} {x : X}, findI q n i = some x → P x
  | 0, _, _, e => by cases e
  | n + 1, i, x, e => by
    rw [findI] at e
    cases hq : q i with
    | some y => rw [hq] at e; cases e; exact h _ _ hq
    | none => rw [hq] at e; exact findI_mem h e

theorem findI_rng {X : Type} {q : Int → Option X} {P : X → Prop} {p : Int} : ∀ {n : Nat} {i : Int}, 0 ≤ i → i + n ≤ p → (∀ j x, 0 ≤ j → j < p → q j = some x → P x) → ∀ {x : X}, findI q n i = some x → P x
  | 0, _, _, _, _, _, e => by cases e
  | n + 1, i, h0, h1, h, x, e => by
    rw [findI] at e
    cases hq : q i with
    | some y => rw [hq] at e; cases e; exact h _ _ h0 (by omega) hq
    | none => rw [hq] at e; exact findI_rng (by omega) (by omega) h e

theorem parts_rng {p : Int} (hp : isP p) {a b c : TripD} : (0 ≤ (partsF p a b c).1 ∧ (partsF p a b c).1 < p) ∧ (0 ≤ (partsF p a b c).2 ∧ (partsF p a b c).2 < p) := by
  have hbd := isP_bd hp
  unfold partsF
  rw [partsO_eq]
  cases h : findI (qu p a b c) p.toNat 0 with
  | none => exact ⟨⟨Int.le_refl _, by show (0 : Int) < p; omega⟩, ⟨Int.le_refl _, by show (0 : Int) < p; omega⟩⟩
  | some r =>
    refine findI_rng (p := p) (Int.le_refl _) (by omega) (P := fun r : Int × Int => (0 ≤ r.1 ∧ r.1 < p) ∧ (0 ≤ r.2 ∧ r.2 < p)) ?_ h
    intro u x hu0 hu1 hx
    refine findI_rng (p := p) (Int.le_refl _) (by omega) (P := fun r : Int × Int => (0 ≤ r.1 ∧ r.1 < p) ∧ (0 ≤ r.2 ∧ r.2 < p)) ?_ hx
    intro v y hv0 hv1 hy
    unfold qv at hy
    split at hy
    · cases hy; exact ⟨⟨hu0, hu1⟩, ⟨hv0, hv1⟩⟩
    · cases hy

theorem goal29 : con29.goal Try.prog (spOf [con31, con75]) g29_sh [] lm30 := by
  have e : (∀ (p : Int) (l : QuadD), isP p → allIn p l → g29 p l = some (ratL p l, ())) = con29.goal Try.prog (spOf [con31, con75]) g29_sh [] lm30 := by kernel_rfl
  rw [← e]
  intro p l hp hl
  obtain ⟨a, b, c, d, _⟩ := l
  obtain ⟨ha, hb, hc, hd⟩ := hl
  simp only at ha hb hc hd
  have hbd := isP_bd hp
  unfold g29
  simp only
  rw [gd_pos (by omega), gd_pos (by omega), gd_pos (by omega), gd_pos hp, gd_pos ha, gd_pos hb, gd_pos hc, gd_pos (by omega), gd_pos (by omega), gd_pos (by omega), gd_pos hp, gd_pos ha, gd_pos hb, gd_pos hd]
  show _ = some (ratR p (partsF p (pt p a) (pt p b) (pt p c)).1 (partsF p (pt p a) (pt p b) (pt p c)).2 (partsF p (pt p a) (pt p b) (pt p d)).1 (partsF p (pt p a) (pt p b) (pt p d)).2, ())
  obtain ⟨hu, hv⟩ := parts_rng hp (a := pt p a) (b := pt p b) (c := pt p c)
  obtain ⟨hs, ht⟩ := parts_rng hp (a := pt p a) (b := pt p b) (c := pt p d)
  revert hu hv hs ht
  generalize (partsF p (pt p a) (pt p b) (pt p c)).1 = u
  generalize (partsF p (pt p a) (pt p b) (pt p c)).2 = v
  generalize (partsF p (pt p a) (pt p b) (pt p d)).1 = s
  generalize (partsF p (pt p a) (pt p b) (pt p d)).2 = t
  intro hu hv hs ht
  refine (find_loop (p := p) (fun x => ((x, ()) : Int × Unit)) (qx p u v s t) (fun r => ((r, ()) : Int × Unit)) ((0 : Int), ()) (by omega) ?_ ?_).trans ?_
  · intro x h0 hx
    simp only
    have wu : wr .i64 (x + 1) = x + 1 := wr_id (by omega)
    have b1 := mul_bd (c := 7) (a := x) (b := v) (by omega) (by omega)
    have b2 := mul_bd (c := 49) (a := x * v) (b := s) (by omega) (by omega)
    have b3 := mul_bd (c := 7) (a := u) (b := t) (by omega) (by omega)
    rw [cond_t (ilt_iff.2 hx), gd_pos (by omega), wr_id (n := x * v) (by omega), wr_id (n := x * v * s) (by omega), wr_id (n := u * t) (by omega), wr_id (n := x * v * s - u * t) (by omega)]
    unfold qx
    by_cases h : (x * v * s - u * t) % p = 0
    · rw [if_pos h, cond_t (ieq_iff.2 (tmod0.2 h))]; rfl
    · rw [if_neg h, cond_f (by rw [← Bool.not_eq_true, ieq_iff, tmod0]; exact h), wu]; rfl
  · simp only
    rw [cond_f (ilt_false.2 (Int.le_refl _))]
  · show _ = some ((findI (qx p u v s t) p.toNat 0).getD 0, ())
    cases findI (qx p u v s t) p.toNat 0 <;> rfl
set_option maxRecDepth 100000 in
theorem ok29 : con29.Ok Try.prog := Con.of_goal mixed (okC ok31 (okC ok75 okN)) con29 goal29

end Go.Arcs
