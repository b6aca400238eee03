/- The reference's Points, and the law ArcsJoins as a contract. -/
import Derived.Test.YtffapeomfjfedaaA6
set_option linter.unusedVariables false
set_option linter.unusedSimpArgs false
namespace Go.Arcs
open Go Go.Ab Go.Proofs

theorem ieq_d {x y : Int} : ieq x y = decide (x = y) := by by_cases h : x = y <;> simp [ieq, h]
def mulT (p k : Int) (t : TripD) : TripD := (k * t.1 % p, k * t.2.1 % p, k * t.2.2.1 % p, ())
def uG (p : Int) (t : TripD) : Nat → Int → TripD
  | 0, _ => t
  | n + 1, k => if firstF (mulT p k t) = 1 then mulT p k t else uG p t n (k + 1)
theorem uG_tab : ∀ p ∈ ([2, 3, 5, 7] : List Int), ∀ a ∈ List.range p.toNat, ∀ b ∈ List.range p.toNat, ∀ c ∈ List.range p.toNat,
    deq Trip (uG p ((a : Int), (b : Int), (c : Int), ()) (p - 1).toNat 1) (unitF p ((a : Int), (b : Int), (c : Int), ())) = true := by decide +kernel

theorem goal76 : con76.goal Try.prog (spOf []) g76_sh [] lm30 := by
  have e : (∀ (p : Int) (x : TripD), isP p → bdT x → g76 p x = some (unitF p x, ())) = con76.goal Try.prog (spOf []) g76_sh [] lm30 := by kernel_rfl
  rw [← e]
  intro p x hp hx
  have hb := isP_bd hp
  have hk : p ≠ 0 := by omega
  obtain ⟨x1, x2, x3, _⟩ := x
  have hm : ∀ n, Int.tmod (wr .i64 (Int.tmod n p + p)) p = n % p := fun n => modF_eq (n := n) (by omega)
  have h0 : ∀ n : Int, 0 ≤ n % p ∧ n % p < p := fun n => ⟨Int.emod_nonneg n (by omega), Int.emod_lt_of_pos n (by omega)⟩
  have w1 : wr .i64 1 = 1 := by decide
  have w2 : wr .i64 2 = 2 := by decide
  have w3 : wr .i64 3 = 3 := by decide
  unfold g76
  rw [gd_pos (by omega)]
  refine (whileO_go (s' := ((1 : Int), [x1 % p, x2, x3], [0, 0, 0], ())) ?_).trans ?_
  · simp [ilt, gd_true, hk, arrGet, hm, w1]
  refine (whileO_go (s' := ((2 : Int), [x1 % p, x2 % p, x3], [0, 0, 0], ())) ?_).trans ?_
  · simp [ilt, gd_true, hk, arrGet, hm, w2]
  refine (whileO_go (s' := ((3 : Int), [x1 % p, x2 % p, x3 % p], [0, 0, 0], ())) ?_).trans ?_
  · simp [ilt, gd_true, hk, arrGet, hm, w3]
  refine whileO_out ?_
  have ha := h0 x1
  have hb' := h0 x2
  have hc := h0 x3
  have hu : unitF p (x1, x2, x3, ()) = unitF p (x1 % p, x2 % p, x3 % p, ()) := by simp [unitF, modT]
  rw [hu]
  generalize x1 % p = a at ha
  generalize x2 % p = b at hb'
  generalize x3 % p = c at hc
  have htab := uG_tab p (isP_mem hp) a.toNat (List.mem_range.2 (by omega)) b.toNat (List.mem_range.2 (by omega)) c.toNat (List.mem_range.2 (by omega))
  rw [Int.toNat_of_nonneg ha.1, Int.toNat_of_nonneg hb'.1, Int.toNat_of_nonneg hc.1] at htab
  rw [← (deq_iff (t := Trip) rfl).1 htab]
  simp only
  rw [cond_f (by decide)]
  refine whileO_rec (fun (d : Int × List Int × List Int × Unit) => 1 ≤ d.1 ∧ d.1 ≤ p ∧ d.2.1 = [a, b, c] ∧ d.2.2.1 = [0, 0, 0]) (fun (d : Int × List Int × List Int × Unit) => (p - d.1).toNat)
    (fun (d : Int × List Int × List Int × Unit) => Lp.out (uG p (a, b, c, ()) (p - d.1).toNat d.1, ())) ?_ ((1 : Int), [a, b, c], [0, 0, 0], ()) ⟨by simp only; omega, by simp only; omega, rfl, rfl⟩
  rintro ⟨k, l, z, _⟩ ⟨h1, h2, h3, h4⟩
  simp only at h1 h2 h3 h4 ⊢
  subst h3
  subst h4
  by_cases hlt : k < p
  · have b1 := mul_bd (c := 7) (a := k) (b := a) (by omega) (by omega)
    have b2 := mul_bd (c := 7) (a := k) (b := b) (by omega) (by omega)
    have b3 := mul_bd (c := 7) (a := k) (b := c) (by omega) (by omega)
    have hn : (p - k).toNat = (p - (k + 1)).toNat + 1 := by omega
    have t1 : Int.tmod (wr .i64 (k * a)) p = k * a % p := by rw [wr_id (by omega), Int.tmod_eq_emod_of_nonneg (by omega)]
    have t2 : Int.tmod (wr .i64 (k * b)) p = k * b % p := by rw [wr_id (by omega), Int.tmod_eq_emod_of_nonneg (by omega)]
    have t3 : Int.tmod (wr .i64 (k * c)) p = k * c % p := by rw [wr_id (by omega), Int.tmod_eq_emod_of_nonneg (by omega)]
    have hw : wr .i64 (k + 1) = k + 1 := wr_id (by omega)
    rw [cond_t (ilt_iff.2 hlt), hn]
    by_cases hf : firstF (mulT p k (a, b, c, ())) = 1
    · left
      rw [uG, if_pos hf]
      simp only [firstF, mulT] at hf ⊢
      by_cases q1 : k * a % p = 0 <;> by_cases q2 : k * b % p = 0 <;> simp [q1, q2] at hf <;> simp [gd_true, hk, t1, t2, t3, ieq_d, q1, q2, hf, firstF, setMany]
    · right
      have hf0 := hf
      simp only [firstF, mulT] at hf
      refine ⟨((k + 1, [a, b, c], [0, 0, 0], ()) : Int × List Int × List Int × Unit), ?_, ⟨by simp only; omega, by simp only; omega, rfl, rfl⟩, by simp only; omega, ?_⟩
      · by_cases q1 : k * a % p = 0 <;> by_cases q2 : k * b % p = 0 <;> simp [q1, q2] at hf <;> simp [gd_true, hk, t1, t2, t3, ieq_d, q1, q2, hf, hw]
      · rw [uG, if_neg hf0]
  · left
    have : (p - k).toNat = 0 := by omega
    rw [cond_f (ilt_false.2 (by omega)), this]
    simp [gd_true, setMany, uG]
set_option maxRecDepth 100000 in
theorem ok76 : con76.Ok Try.prog := Con.of_goal mixed okN con76 goal76

/-! ### Points -/
noncomputable def cnd (p : Int) (t : TripD) : Bool := deq Trip t (unitF p t) && !deq Trip t ((0, 0, 0, ()) : TripD)
noncomputable def zL (p x y : Int) : Nat → Int → List TripD → List TripD
  | 0, _, xs => xs
  | n + 1, z, xs => zL p x y n (z + 1) (if cnd p (x, y, z, ()) = true then xs ++ [(x, y, z, ())] else xs)
noncomputable def yL (p x : Int) : Nat → Int → List TripD → List TripD
  | 0, _, xs => xs
  | n + 1, y, xs => yL p x n (y + 1) (zL p x y p.toNat 0 xs)
noncomputable def xL (p : Int) : Nat → Int → List TripD → List TripD
  | 0, _, xs => xs
  | n + 1, x, xs => xL p n (x + 1) (yL p x p.toNat 0 xs)
theorem xL_tab : ∀ p ∈ ([2, 3, 5, 7] : List Int), xL p 2 0 [] = ptsC p := by decide +kernel

theorem zL_len {p x y : Int} : ∀ {n : Nat} {z : Int} {xs : List TripD}, (zL p x y n z xs).length ≤ xs.length + n
  | 0, z, xs => Nat.le_refl _
  | n + 1, z, xs => by
    rw [zL]
    refine Nat.le_trans zL_len ?_
    split <;> simp <;> omega
theorem yL_len {p x : Int} : ∀ {n : Nat} {y : Int} {xs : List TripD}, (yL p x n y xs).length ≤ xs.length + n * p.toNat
  | 0, y, xs => by simp [yL]
  | n + 1, y, xs => by
    rw [yL, Nat.succ_mul]
    have h1 := yL_len (p := p) (x := x) (n := n) (y := y + 1) (xs := zL p x y p.toNat 0 xs)
    have h2 := zL_len (p := p) (x := x) (y := y) (n := p.toNat) (z := 0) (xs := xs)
    omega

theorem goal31 : con31.goal Try.prog (spOf [con76]) g31_sh [] lm30 := by
  have e : (∀ (p : Int), isP p → g31 p = some (ptsC p, ())) = con31.goal Try.prog (spOf [con76]) g31_sh [] lm30 := by kernel_rfl
  rw [← e]
  intro p hp
  have hb := isP_bd hp
  unfold g31
  rw [gd_pos rfl, ← xL_tab p (isP_mem hp)]
  refine whileO_rec (fun (d : Int × List TripD × Unit) => 0 ≤ d.1 ∧ d.1 ≤ 2 ∧ d.2.1.length ≤ d.1.toNat * 100) (fun (d : Int × List TripD × Unit) => (2 - d.1).toNat)
    (fun (d : Int × List TripD × Unit) => (xL p (2 - d.1).toNat d.1 d.2.1, ())) ?_ ((0 : Int), [], ()) ⟨by simp only; omega, by simp only; omega, by simp⟩
  rintro ⟨x, xs, _⟩ ⟨hx0, hx1, hxl⟩
  simp only at hx0 hx1 hxl ⊢
  by_cases hx : x < 2
  · right
    have hnx : (2 - x).toNat = (2 - (x + 1)).toNat + 1 := by omega
    refine ⟨((x + 1, yL p x p.toNat 0 xs, ()) : Int × List TripD × Unit), ?_, ⟨by simp only; omega, by simp only; omega, ?_⟩, by simp only; omega, by simp only [hnx, xL]⟩
    · rw [cond_t (ilt_iff.2 hx), gd_true]
      have hw : wr .i64 (x + 1) = x + 1 := wr_id (by omega)
      refine (whileO_rec (fun (d : Int × List TripD × Unit) => 0 ≤ d.1 ∧ d.1 ≤ p ∧ d.2.1.length ≤ x.toNat * 100 + d.1.toNat * 10) (fun (d : Int × List TripD × Unit) => (p - d.1).toNat)
        (fun (d : Int × List TripD × Unit) => Lp.go ((x + 1, yL p x (p - d.1).toNat d.1 d.2.1, ()) : Int × List TripD × Unit)) ?_ ((0 : Int), xs, ()) ⟨by simp only; omega, by simp only; omega, by simp only; omega⟩).trans (by simp only [Int.sub_zero])
      rintro ⟨y, ys, _⟩ ⟨hy0, hy1, hyl⟩
      simp only at hy0 hy1 hyl ⊢
      by_cases hy : y < p
      · right
        have hny : (p - y).toNat = (p - (y + 1)).toNat + 1 := by omega
        refine ⟨((y + 1, zL p x y p.toNat 0 ys, ()) : Int × List TripD × Unit), ?_, ⟨by simp only; omega, by simp only; omega, ?_⟩, by simp only; omega, by simp only [hny, yL]⟩
        · rw [cond_t (ilt_iff.2 hy), gd_true]
          have hwy : wr .i64 (y + 1) = y + 1 := wr_id (by omega)
          refine (whileO_rec (fun (d : Int × List TripD × Unit) => 0 ≤ d.1 ∧ d.1 ≤ p ∧ d.2.1.length ≤ 1000 + d.1.toNat) (fun (d : Int × List TripD × Unit) => (p - d.1).toNat)
            (fun (d : Int × List TripD × Unit) => Lp.go ((y + 1, zL p x y (p - d.1).toNat d.1 d.2.1, ()) : Int × List TripD × Unit)) ?_ ((0 : Int), ys, ()) ⟨by simp only; omega, by simp only; omega, by simp only; omega⟩).trans (by simp only [Int.sub_zero])
          rintro ⟨z, zs, _⟩ ⟨hz0, hz1, hzl⟩
          simp only at hz0 hz1 hzl ⊢
          by_cases hz : z < p
          · right
            have hnz : (p - z).toNat = (p - (z + 1)).toNat + 1 := by omega
            have hwz : wr .i64 (z + 1) = z + 1 := wr_id (by omega)
            have hbd : bdT (x, y, z, ()) := by simp only [bdT]; omega
            rw [cond_t (ilt_iff.2 hz)]
            simp only [Nat.le_refl, gd_true, gd_pos hp, gd_pos hbd, imp_self, and_self, implies_true, List.take_length, hwz]
            have hcc : (bif deq Trip ((x, y, z, ()) : TripD) (unitF p ((x, y, z, ()) : TripD)) then !deq Trip ((x, y, z, ()) : TripD) ((0, 0, 0, ()) : TripD) else false) = cnd p (x, y, z, ()) := by
              unfold cnd
              cases deq Trip ((x, y, z, ()) : TripD) (unitF p ((x, y, z, ()) : TripD)) <;> rfl
            by_cases hc : cnd p (x, y, z, ()) = true
            · refine ⟨((z + 1, zs ++ [(x, y, z, ())], ()) : Int × List TripD × Unit), ?_, ⟨by simp only; omega, by simp only; omega, by simp only [List.length_append, List.length_singleton]; omega⟩, by simp only; omega, by simp only [hnz, zL, hc, if_true]⟩
              rw [cond_t (hcc.trans hc), gd_pos (by omega), gd_pos (by simp)]
            · have hcf : cnd p (x, y, z, ()) = false := by simpa using hc
              refine ⟨((z + 1, zs, ()) : Int × List TripD × Unit), ?_, ⟨by simp only; omega, by simp only; omega, by simp only; omega⟩, by simp only; omega, by simp only [hnz, zL, hcf]; rfl⟩
              rw [cond_f (hcc.trans hcf)]
          · left
            have : (p - z).toNat = 0 := by omega
            rw [cond_f (ilt_false.2 (by omega)), gd_true, this, zL, hwy]
        · have := zL_len (p := p) (x := x) (y := y) (n := p.toNat) (z := 0) (xs := ys)
          simp only; omega
      · left
        have : (p - y).toNat = 0 := by omega
        rw [cond_f (ilt_false.2 (by omega)), gd_true, this, yL, hw]
    · have := yL_len (p := p) (x := x) (n := p.toNat) (y := 0) (xs := xs)
      have h49 : p.toNat * p.toNat ≤ 49 := by rcases hp with rfl | rfl | rfl | rfl <;> decide
      simp only; omega
  · left
    have : (2 - x).toNat = 0 := by omega
    rw [cond_f (ilt_false.2 (by omega)), this]
    simp only [Nat.zero_add, Nat.le_refl, gd_true, List.drop_zero, List.take_length, xL]
set_option maxRecDepth 100000 in
theorem ok31 : con31.Ok Try.prog := Con.of_goal mixed (okC ok76 okN) con31 goal31

end Go.Arcs
