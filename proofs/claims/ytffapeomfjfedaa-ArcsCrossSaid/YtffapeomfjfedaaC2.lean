/- The cross ratio: the parts of a point. -/
import Derived.Test.YtffapeomfjfedaaC1
set_option linter.unusedVariables false
set_option linter.unusedSimpArgs false
namespace Go.Arcs
open Go Go.Ab Go.Proofs

theorem w1 : wr .i64 1 = 1 := by decide
theorem w2 : wr .i64 2 = 2 := by decide
theorem w3 : wr .i64 3 = 3 := by decide
theorem w4 : wr .i64 4 = 4 := by decide

def pick {X Y : Type} (o : Option Y) (f : Y → X) (e : X) : X := match o with
  | some r => f r
  | none => e

theorem find_loop {S X Y : Type} {step : S → Option (Lp S X)} {p : Int} (st : Int → S) (q : Int → Option Y) (f : Y → X) (fin : X) (hp : 0 ≤ p)
    (h1 : ∀ v, 0 ≤ v → v < p → step (st v) = some (pick (q v) (fun r => Lp.out (f r)) (Lp.go (st (v + 1)))))
    (h2 : step (st p) = some (.out fin)) : whileO step (st 0) = some (pick (findI q p.toNat 0) f fin) := by
  have key : ∀ n v, 0 ≤ v → (p - v).toNat = n → v ≤ p → whileO step (st v) = some (pick (findI q n v) f fin) := by
    intro n
    induction n with
    | zero =>
      intro v h0 hn hv
      have : v = p := by omega
      subst this
      exact whileO_out h2
    | succ n ih =>
      intro v h0 hn hv
      have hs := h1 v h0 (by omega)
      rw [findI]
      cases hq : q v with
      | some r =>
        rw [hq] at hs
        exact whileO_out hs
      | none =>
        rw [hq] at hs
        exact (whileO_go hs).trans (ih (v + 1) (by omega) (by omega) (by omega))
  exact key p.toNat 0 (Int.le_refl _) (by omega) hp

def qv (p : Int) (a b c : TripD) (u v : Int) : Option (Int × Int) := if deqT (cmb p a b u v) c = true then some (u, v) else none
def qu (p : Int) (a b c : TripD) (u : Int) : Option (Int × Int) := findI (qv p a b c u) p.toNat 0
theorem partsO_eq {p : Int} {a b c : TripD} : partsO p a b c = findI (qu p a b c) p.toNat 0 := rfl

theorem in72 {k : PlaneD} {a1 a2 a3 b1 b2 b3 c1 c2 c3 u v : Int} (hp : isP k.1) (ha : inR k.1 (a1, a2, a3, ())) (hb : inR k.1 (b1, b2, b3, ())) (hu : 0 ≤ u ∧ u < k.1) (hv : 0 ≤ v ∧ v < k.1) :
    whileO (g72_l0 k (u, [a1, a2, a3], [b1, b2, b3], [c1, c2, c3], ()) (v, [a1, a2, a3], [b1, b2, b3], [c1, c2, c3], ())) (0, [a1, a2, a3], [b1, b2, b3], [c1, c2, c3], [0, 0, 0], ()) =
      some (pick (qv k.1 (a1, a2, a3, ()) (b1, b2, b3, ()) (c1, c2, c3, ()) u v) (fun r => Lp.out (Lp.out (r.1, r.2, ()))) (Lp.go (v + 1, [a1, a2, a3], [b1, b2, b3], [c1, c2, c3], ()))) := by
  have hbd := isP_bd hp
  obtain ⟨ha1, ha2, ha3⟩ := ha
  obtain ⟨hb1, hb2, hb3⟩ := hb
  simp only at ha1 ha2 ha3 hb1 hb2 hb3
  have hk : k.1 ≠ 0 := by omega
  have t : ∀ x y : Int, 0 ≤ x ∧ x < k.1 → 0 ≤ y ∧ y < k.1 → modF k.1 (wr .i64 (wr .i64 (u * x) + wr .i64 (v * y))) = (u * x + v * y) % k.1 := by
    intro x y hx hy
    have b1 := mul_bd (c := 7) (a := u) (b := x) (by omega) (by omega)
    have b2 := mul_bd (c := 7) (a := v) (b := y) (by omega) (by omega)
    rw [modF_eq (by omega), wr_id (n := u * x) (by omega), wr_id (n := v * y) (by omega), wr_id (by omega)]
  have t1 := t a1 b1 ha1 hb1
  have t2 := t a2 b2 ha2 hb2
  have t3 := t a3 b3 ha3 hb3
  have wv : wr .i64 (v + 1) = v + 1 := wr_id (by omega)
  refine (whileO_go (s' := ((1 : Int), [a1, a2, a3], [b1, b2, b3], [c1, c2, c3], [(u * a1 + v * b1) % k.1, 0, 0], ())) ?_).trans ?_
  · simp [g72_l0, ilt, gd_true, hk, t1, w1]
  refine (whileO_go (s' := ((2 : Int), [a1, a2, a3], [b1, b2, b3], [c1, c2, c3], [(u * a1 + v * b1) % k.1, (u * a2 + v * b2) % k.1, 0], ())) ?_).trans ?_
  · simp [g72_l0, ilt, gd_true, hk, t2, w2]
  refine (whileO_go (s' := ((3 : Int), [a1, a2, a3], [b1, b2, b3], [c1, c2, c3], [(u * a1 + v * b1) % k.1, (u * a2 + v * b2) % k.1, (u * a3 + v * b3) % k.1], ())) ?_).trans ?_
  · simp [g72_l0, ilt, gd_true, hk, t3, w3]
  refine whileO_out ?_
  unfold qv
  by_cases hd : deqT (cmb k.1 (a1, a2, a3, ()) (b1, b2, b3, ()) u v) (c1, c2, c3, ()) = true
  · rw [if_pos hd]
    simp only [deqT, cmb] at hd
    simp [g72_l0, ilt, gd_true, pick, hd]
  · rw [if_neg hd]
    simp only [deqT, cmb] at hd
    simp [g72_l0, ilt, gd_true, pick, hd, wv]

theorem goal72 : con72.goal Try.prog (spOf [conMod]) g72_sh [] lm30 := by
  have e : (∀ (k : PlaneD) (a b c : TripD), isP k.1 → inR k.1 a → inR k.1 b → inR k.1 c → g72 k a b c = some ((partsF k.1 a b c).1, (partsF k.1 a b c).2, ())) = con72.goal Try.prog (spOf [conMod]) g72_sh [] lm30 := by kernel_rfl
  rw [← e]
  intro k a b c hp ha hb hc
  have hbd := isP_bd hp
  obtain ⟨a1, a2, a3, _⟩ := a
  obtain ⟨b1, b2, b3, _⟩ := b
  obtain ⟨c1, c2, c3, _⟩ := c
  unfold g72 partsF
  rw [partsO_eq]
  refine (find_loop (p := k.1) (fun u => ((u, [a1, a2, a3], [b1, b2, b3], [c1, c2, c3], ()) : Int × List Int × List Int × List Int × Unit)) (qu k.1 (a1, a2, a3, ()) (b1, b2, b3, ()) (c1, c2, c3, ())) (fun r => ((r.1, r.2, ()) : Int × Int × Unit)) ((0 : Int), (0 : Int), ()) (by omega) ?_ ?_).trans ?_
  · intro u h0 hu
    simp only
    rw [cond_t (ilt_iff.2 hu)]
    have wu : wr .i64 (u + 1) = u + 1 := wr_id (by omega)
    refine (find_loop (p := k.1) (fun v => ((v, [a1, a2, a3], [b1, b2, b3], [c1, c2, c3], ()) : Int × List Int × List Int × List Int × Unit)) (qv k.1 (a1, a2, a3, ()) (b1, b2, b3, ()) (c1, c2, c3, ()) u) (fun r => Lp.out ((r.1, r.2, ()) : Int × Int × Unit)) (Lp.go ((u + 1, [a1, a2, a3], [b1, b2, b3], [c1, c2, c3], ()) : Int × List Int × List Int × List Int × Unit)) (by omega) ?_ ?_).trans ?_
    · intro v hv0 hv
      unfold g72_l1
      rw [cond_t (ilt_iff.2 hv), gd_pos (by omega)]
      exact in72 hp ha hb ⟨h0, hu⟩ ⟨hv0, hv⟩
    · unfold g72_l1
      rw [cond_f (ilt_false.2 (Int.le_refl _))]
      simp only [wu]
    · rfl
  · simp only
    rw [cond_f (ilt_false.2 (Int.le_refl _))]
  · cases findI (qu k.1 (a1, a2, a3, ()) (b1, b2, b3, ()) (c1, c2, c3, ())) k.1.toNat 0 <;> rfl
set_option maxRecDepth 100000 in
theorem ok72 : con72.Ok Try.prog := Con.of_goal mixed (okC okMod okN) con72 goal72

end Go.Arcs
