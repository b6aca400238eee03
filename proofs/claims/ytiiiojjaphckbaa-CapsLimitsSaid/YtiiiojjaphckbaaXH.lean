/- Colourings: the law Limits. -/
import Derived.Test.YtiiiojjaphckbaaXG
set_option linter.unusedVariables false
set_option linter.unusedSimpArgs false
namespace Go.Caps
open Go Go.Ab Go.Proofs

def okQ (kk col : Int) (r : List Int) : Bool := (List.range r.length).all fun m => !badK kk (r.take (m + 1)) && (decide (0 ≤ r.getD m 0) && decide (r.getD m 0 < col))
theorem okP_of {kk col : Int} {r : List Int} (h : okQ kk col r = true) : okP kk col r := fun m hm => by
  have := List.all_eq_true.1 h m (List.mem_range.2 hm)
  simp only [Bool.and_eq_true, Bool.not_eq_true', decide_eq_true_eq] at this
  exact this
theorem word_some {kk col n : Int} (hc : 0 ≤ col) (r : List Int) (h : okQ kk col r = true) (hn0 : 0 ≤ n) (hn : n ≤ r.length) (h40 : n ≤ 40) : colS kk n col 42 [] ≠ none :=
  col_ne hc (okP_take (okP_of h) n.toNat) (by rw [List.length_take]; omega) (by rw [List.length_take]; omega)

def wS1 : List Int := [0]
theorem chS1 : okQ 0 1 wS1 = true := by decide +kernel
def wS2 : List Int := [0, 1, 1, 0]
theorem chS2 : okQ 0 2 wS2 = true := by decide +kernel
def wS3 : List Int := [0, 1, 1, 0, 2, 2, 0, 2, 2, 0, 1, 1, 0]
theorem chS3 : okQ 0 3 wS3 = true := by decide +kernel
def w31 : List Int := [0, 0]
theorem ch31 : okQ 3 1 w31 = true := by decide +kernel
def w41 : List Int := [0, 0, 0]
theorem ch41 : okQ 4 1 w41 = true := by decide +kernel
def w32 : List Int := [0, 0, 1, 1, 0, 0, 1, 1]
theorem ch32 : okQ 3 2 w32 = true := by decide +kernel
def w42 : List Int := [0, 0, 1, 0, 0, 0, 1, 1, 1, 0, 1, 0, 0, 1, 0, 0, 0, 1, 1, 1, 0, 1, 0, 0, 1, 0, 0, 0, 1, 1, 1, 0, 1, 1]
theorem ch42 : okQ 4 2 w42 = true := by decide +kernel
theorem ch43 : okQ 4 3 w42 = true := by decide +kernel
def w33 : List Int := [0, 0, 1, 1, 0, 0, 1, 2, 1, 2, 2, 0, 2, 0, 0, 1, 0, 1, 1, 2, 0, 2, 2, 1, 2, 1]
theorem ch33 : okQ 3 3 w33 = true := by decide +kernel

theorem some_sum {n col : Int} (hc : col = 1 ∨ col = 2 ∨ col = 3) (h1 : 1 ≤ n) (hn : n ≤ knownS col) : colS 0 n col 42 [] ≠ none := by
  rcases hc with rfl | rfl | rfl
  · have : knownS 1 = 1 := rfl
    exact word_some (by omega) wS1 chS1 (by omega) (by rw [show wS1.length = 1 from rfl]; omega) (by omega)
  · have : knownS 2 = 4 := rfl
    exact word_some (by omega) wS2 chS2 (by omega) (by rw [show wS2.length = 4 from rfl]; omega) (by omega)
  · have : knownS 3 = 13 := rfl
    exact word_some (by omega) wS3 chS3 (by omega) (by rw [show wS3.length = 13 from rfl]; omega) (by omega)
theorem some_step {n col k : Int} (h : argsW n col k = true) (hn : n ≤ knownF col k) : colS k n col 42 [] ≠ none := by
  obtain ⟨h1, h2, h3⟩ := argsW_iff.1 h
  obtain ⟨q1, q2, q3, q4⟩ := argsOk_iff.1 h1
  have hc : col = 1 ∨ col = 2 ∨ col = 3 := by omega
  rcases hc with rfl | rfl | rfl <;> rcases h3 with rfl | rfl
  · have : knownF 1 3 = 2 := rfl
    exact word_some (by omega) w31 ch31 (by omega) (by rw [show w31.length = 2 from rfl]; omega) (by omega)
  · have : knownF 1 4 = 3 := rfl
    exact word_some (by omega) w41 ch41 (by omega) (by rw [show w41.length = 3 from rfl]; omega) (by omega)
  · have : knownF 2 3 = 8 := rfl
    exact word_some (by omega) w32 ch32 (by omega) (by rw [show w32.length = 8 from rfl]; omega) (by omega)
  · have : knownF 2 4 = 34 := rfl
    exact word_some (by omega) w42 ch42 (by omega) (by rw [show w42.length = 34 from rfl]; omega) (by omega)
  · have : knownF 3 3 = 26 := rfl
    exact word_some (by omega) w33 ch33 (by omega) (by rw [show w33.length = 26 from rfl]; omega) (by omega)
  · exact word_some (by omega) w42 ch43 (by omega) (by rw [show w42.length = 34 from rfl]; omega) (by omega)

/-- What is returned for arguments in range. -/
theorem colX_facts {kk n col m : Int} (hc : 0 ≤ col) (h0 : 0 ≤ n) (hs : n ≤ m → colS kk n col 42 [] ≠ none) (hno : m < n → colS kk n col 42 [] = none) :
    ieq (colX kk n col).2.1 0 = decide (n ≤ m) ∧ ieq (colX kk n col).2.1 4 = !decide (n ≤ m) ∧ ieq (colX kk n col).2.1 2 = false ∧ okP kk col (colX kk n col).1 ∧ (decide (n ≤ m) = true → ieq ((colX kk n col).1.length : Int) n = true) ∧ ((colX kk n col).1.length : Int) ≤ n := by
  unfold colX
  cases hq : colS kk n col 42 [] with
  | none =>
    have hm : ¬ n ≤ m := fun h => hs h hq
    rw [decide_eq_false hm]
    exact ⟨rfl, rfl, rfl, (fun i hi => nomatch hi), (fun h => nomatch h), h0⟩
  | some r =>
    have hm : n ≤ m := by
      by_cases h : n ≤ m
      · exact h
      · rw [hno (by omega)] at hq; cases hq
    obtain ⟨h1, h2⟩ := col_some hc hq
    rw [decide_eq_true hm]
    exact ⟨rfl, rfl, rfl, h1, (fun _ => ieq_iff.2 h2), (by simp only []; omega)⟩

/-! the loops -/
theorem l8_run {n col : Int} {L : List Int} (hL : (schurX n col).1 = L) (hl : L.length ≤ 40) (ho : okP 0 col L) {i : Nat} (h1 : 1 ≤ i) (h2 : i ≤ L.length) :
    whileO (g6_l8 n col ((i : Int), ())) (((i : Int), ()) : Int × Unit) = some (.go (((i + 1 : Nat) : Int), ())) := by
  have w1 : wr .i64 ((i : Int) - 1) = ((i - 1 : Nat) : Int) := by rw [wr_id (by omega)]; omega
  refine whileO_nat (st := fun j : Nat => (((j : Int), ()) : Int × Unit)) (lo := i) (hi := max i (L.length + 1 - i)) (by omega) (fun j hj1 hj2 => ?_) ?_
  · have w2 : wr .i64 ((i : Int) + (j : Int)) = ((i + j : Nat) : Int) := by rw [wr_id (by omega)]; omega
    have w3 : wr .i64 ((j : Int) - 1) = ((j - 1 : Nat) : Int) := by rw [wr_id (by omega)]; omega
    have w4 : wr .i64 (((i + j : Nat) : Int) - 1) = ((i + j - 1 : Nat) : Int) := by rw [wr_id (by omega)]; omega
    have w5 : wr .i64 ((j : Int) + 1) = ((j + 1 : Nat) : Int) := cast1 (by omega)
    have c1 : ile ((i + j : Nat) : Int) (L.length : Int) = true := by rw [ile_d]; simp only [decide_eq_true_eq]; omega
    have c2 : ((0 : Int) ≤ ((i - 1 : Nat) : Int) ∧ ((i - 1 : Nat) : Int) < (L.length : Int)) = True := by simp only [eq_iff_iff, iff_true]; omega
    have c3 : ((0 : Int) ≤ ((j - 1 : Nat) : Int) ∧ ((j - 1 : Nat) : Int) < (L.length : Int)) = True := by simp only [eq_iff_iff, iff_true]; omega
    have c4 : ((0 : Int) ≤ ((i + j - 1 : Nat) : Int) ∧ ((i + j - 1 : Nat) : Int) < (L.length : Int)) = True := by simp only [eq_iff_iff, iff_true]; omega
    have hs : (bif ieq (L.getD (i - 1) 0) (L.getD (j - 1) 0) then ieq (L.getD (j - 1) 0) (L.getD (i + j - 1) 0) else false) = false := by
      have := okP_sum ho (a := i - 1) (b := j - 1) (by omega) (by omega)
      rw [show i - 1 + (j - 1) + 1 = i + j - 1 by omega] at this
      rw [ieq_d, ieq_d]
      by_cases e1 : L.getD (i - 1) 0 = L.getD (j - 1) 0
      · rw [decide_eq_true e1, cond_true, decide_eq_false (fun h => this ⟨e1, h⟩)]
      · rw [decide_eq_false e1]; rfl
    unfold g6_l8 g6_c6 g6_c7
    simp only [hL, w1, w2, w3, w4, w5, c1, c2, c3, c4, cond_true, gd_true, Int.toNat_natCast, hs, cond_false, and_self, and_true, imp_self]
  · have w2 : wr .i64 ((i : Int) + ((max i (L.length + 1 - i) : Nat) : Int)) = ((i + max i (L.length + 1 - i) : Nat) : Int) := by rw [wr_id (by omega)]; omega
    have w5 : wr .i64 ((i : Int) + 1) = ((i + 1 : Nat) : Int) := cast1 (by omega)
    have c1 : ile ((i + max i (L.length + 1 - i) : Nat) : Int) (L.length : Int) = false := by rw [ile_d]; simp only [decide_eq_false_iff_not]; omega
    unfold g6_l8
    simp only [hL, w2, w5, c1, cond_false]

theorem l15_run {n col : Int} {K : Nat} {L : List Int} (hL : (waerX n col K).1 = L) (hK : K = 3 ∨ K = 4) (hl : L.length ≤ 40) (ho : okP (K : Int) col L) {a b : Nat} (hb : 1 ≤ b) (hn : a + (K - 1) * b < L.length) :
    whileO (g6_l15 n col K ((a : Int), ()) ((b : Int), ())) ((true, (0 : Int), ()) : Bool × Int × Unit) = some (.go (((b + 1 : Nat) : Int), ())) := by
  have hf : (List.range' 0 K).all (fun i => ieq (L.getD (a + i * b) 0) (L.getD a 0)) = false := by
    rw [Bool.eq_false_iff]
    intro h
    refine okP_step hK ho hb hn fun i hi => ?_
    have := List.all_eq_true.1 h i (List.mem_range'_1.2 ⟨by omega, by omega⟩)
    exact ieq_iff.1 this
  refine (all_while (fun (q : Bool) (i : Nat) => ((q, (i : Int), ()) : Bool × Int × Unit)) (fun i => ieq (L.getD (a + i * b) 0) (L.getD a 0)) (fun q => if q = true then Lp.out (Lp.out (Lp.out ((false, ()) : Bool × Unit))) else Lp.go ((((b + 1 : Nat) : Int), ()) : Int × Unit)) K 0 true (fun q i hi0 hi => ?_) (fun q => ?_)).trans ?_
  · have hm : i * b ≤ (K - 1) * b := Nat.mul_le_mul_right _ (by omega)
    have w2 : wr .i64 ((i : Int) * (b : Int)) = ((i * b : Nat) : Int) := by rw [← Int.natCast_mul, wr_id (by omega)]
    have w3 : wr .i64 ((a : Int) + ((i * b : Nat) : Int)) = ((a + i * b : Nat) : Int) := by rw [wr_id (by omega)]; omega
    have w4 : wr .i64 ((i : Int) + 1) = ((i + 1 : Nat) : Int) := cast1 (by omega)
    have c1 : ilt (i : Int) (K : Int) = true := by rw [ilt_d]; simp only [decide_eq_true_eq]; omega
    have c5 : ((0 : Int) ≤ (a : Int) ∧ (a : Int) < (L.length : Int)) = True := by simp only [eq_iff_iff, iff_true]; omega
    have c6 : ((0 : Int) ≤ ((a + i * b : Nat) : Int) ∧ ((a + i * b : Nat) : Int) < (L.length : Int)) = True := by simp only [eq_iff_iff, iff_true]; omega
    unfold g6_l15 g6_c14
    simp only [hL, w2, w3, w4, c1, cond_true, c5, c6, Int.toNat_natCast, and_self, and_true, imp_self, gd_true]
    cases q <;> rfl
  · have c1 : ilt ((0 + K : Nat) : Int) (K : Int) = false := by rw [ilt_d]; simp only [decide_eq_false_iff_not]; omega
    have hbl : b ≤ (K - 1) * b := Nat.le_mul_of_pos_left _ (by omega)
    have w4 : wr .i64 ((b : Int) + 1) = ((b + 1 : Nat) : Int) := cast1 (by omega)
    unfold g6_l15
    simp only [c1, cond_false, w4]
    cases q <;> rfl
  · rw [hf]; rfl
theorem l16_run {n col : Int} {K : Nat} {L : List Int} (hL : (waerX n col K).1 = L) (hK : K = 3 ∨ K = 4) (hl : L.length ≤ 40) (ho : okP (K : Int) col L) {a : Nat} (ha : a < L.length) :
    whileO (g6_l16 n col K ((a : Int), ())) (((1 : Int), ()) : Int × Unit) = some (.go (((a + 1 : Nat) : Int), ())) := by
  have wk : wr .i64 ((K : Int) - 1) = ((K - 1 : Nat) : Int) := by rw [wr_id (by omega)]; omega
  obtain ⟨D, hD⟩ : ∃ D, D = (L.length - a - 1) / (K - 1) := ⟨_, rfl⟩
  have hdl : D ≤ L.length - a - 1 := hD ▸ Nat.div_le_self _ _
  have wx : ∀ x : Nat, x ≤ 100 → wr .i64 (((K - 1 : Nat) : Int) * (x : Int)) = (((K - 1) * x : Nat) : Int) ∧ (K - 1) * x ≤ 300 := fun x hx => by
    have : (K - 1) * x ≤ 3 * 100 := Nat.mul_le_mul (by omega) hx
    rw [← Int.natCast_mul, wr_id (by omega)]
    exact ⟨rfl, by omega⟩
  refine whileO_nat (st := fun j : Nat => (((j : Int), ()) : Int × Unit)) (lo := 1) (hi := D + 1) (by omega) (fun b hb1 hb2 => ?_) ?_
  · have hb : b * (K - 1) ≤ L.length - a - 1 := (Nat.le_div_iff_mul_le (by omega)).1 (by rw [← hD]; omega)
    rw [Nat.mul_comm] at hb
    have w3 : wr .i64 ((a : Int) + (((K - 1) * b : Nat) : Int)) = ((a + (K - 1) * b : Nat) : Int) := by rw [wr_id (by omega)]; omega
    have c1 : ilt ((a + (K - 1) * b : Nat) : Int) (L.length : Int) = true := by rw [ilt_d]; simp only [decide_eq_true_eq]; omega
    unfold g6_l16 g6_c13
    simp only [hL, wk, (wx b (by omega)).1, w3, c1, cond_true]
    rw [l15_run hL hK hl ho hb1 (by omega)]
  · obtain ⟨x1, x2⟩ := wx (D + 1) (by omega)
    have hm : ¬ ((D + 1) * (K - 1) ≤ L.length - a - 1) := fun h => by
      have := (Nat.le_div_iff_mul_le (by omega)).2 h
      rw [← hD] at this
      omega
    rw [Nat.mul_comm] at hm
    have w3 : wr .i64 ((a : Int) + (((K - 1) * (D + 1) : Nat) : Int)) = ((a + (K - 1) * (D + 1) : Nat) : Int) := by rw [wr_id (by omega)]; omega
    have w4 : wr .i64 ((a : Int) + 1) = ((a + 1 : Nat) : Int) := cast1 (by omega)
    have c1 : ilt ((a + (K - 1) * (D + 1) : Nat) : Int) (L.length : Int) = false := by rw [ilt_d]; simp only [decide_eq_false_iff_not]; omega
    unfold g6_l16 g6_c13
    simp only [hL, wk, x1, w3, w4, c1, cond_false]
theorem l16_all {n col : Int} {K : Nat} {L : List Int} (hL : (waerX n col K).1 = L) (hK : K = 3 ∨ K = 4) (hl : L.length ≤ 40) (ho : okP (K : Int) col L) :
    whileO (fun (d4 : Int × Unit) => bif ilt d4.1 (L.length : Int) then whileO (g6_l16 n col K d4) (((1 : Int), ()) : Int × Unit) else some (Lp.out (Lp.out ((true, ()) : Bool × Unit)))) (((0 : Int), ()) : Int × Unit) = some (Lp.out (S := Int × Unit) ((true, ()) : Bool × Unit)) :=
  whileO_nat (st := fun j : Nat => (((j : Int), ()) : Int × Unit)) (lo := 0) (hi := L.length) (by omega) (fun a _ ha => by
    have c1 : ilt (a : Int) (L.length : Int) = true := by rw [ilt_d]; simp only [decide_eq_true_eq]; omega
    simp only [c1, cond_true]
    exact l16_run hL hK hl ho ha) (by
    have c1 : ilt (L.length : Int) (L.length : Int) = false := by rw [ilt_d]; simp only [decide_eq_false_iff_not]; omega
    simp only [c1, cond_false])

theorem l21_run {n col : Int} {K : Nat} {L : List Int} (hL : (waerX n col K).1 = L) (hK : K = 3 ∨ K = 4) (hl : L.length ≤ 40) (ho : okP (K : Int) col L) {a b : Nat} (hb : 1 ≤ b) (hn : a + (K - 1) * b < L.length) :
    whileO (g6_l21 n col K ((a : Int), ()) ((b : Int), ())) ((true, (0 : Int), ()) : Bool × Int × Unit) = some (.go (((b + 1 : Nat) : Int), ())) := by
  have hf : (List.range' 0 K).all (fun i => ieq (L.getD (a + i * b) 0) (L.getD a 0)) = false := by
    rw [Bool.eq_false_iff]
    intro h
    refine okP_step hK ho hb hn fun i hi => ?_
    have := List.all_eq_true.1 h i (List.mem_range'_1.2 ⟨by omega, by omega⟩)
    exact ieq_iff.1 this
  refine (all_while (fun (q : Bool) (i : Nat) => ((q, (i : Int), ()) : Bool × Int × Unit)) (fun i => ieq (L.getD (a + i * b) 0) (L.getD a 0)) (fun q => if q = true then Lp.out (Lp.out (Lp.out ((false, ()) : Bool × Unit))) else Lp.go ((((b + 1 : Nat) : Int), ()) : Int × Unit)) K 0 true (fun q i hi0 hi => ?_) (fun q => ?_)).trans ?_
  · have hm : i * b ≤ (K - 1) * b := Nat.mul_le_mul_right _ (by omega)
    have w2 : wr .i64 ((i : Int) * (b : Int)) = ((i * b : Nat) : Int) := by rw [← Int.natCast_mul, wr_id (by omega)]
    have w3 : wr .i64 ((a : Int) + ((i * b : Nat) : Int)) = ((a + i * b : Nat) : Int) := by rw [wr_id (by omega)]; omega
    have w4 : wr .i64 ((i : Int) + 1) = ((i + 1 : Nat) : Int) := cast1 (by omega)
    have c1 : ilt (i : Int) (K : Int) = true := by rw [ilt_d]; simp only [decide_eq_true_eq]; omega
    have c5 : ((0 : Int) ≤ (a : Int) ∧ (a : Int) < (L.length : Int)) = True := by simp only [eq_iff_iff, iff_true]; omega
    have c6 : ((0 : Int) ≤ ((a + i * b : Nat) : Int) ∧ ((a + i * b : Nat) : Int) < (L.length : Int)) = True := by simp only [eq_iff_iff, iff_true]; omega
    unfold g6_l21 g6_c20
    simp only [hL, w2, w3, w4, c1, cond_true, c5, c6, Int.toNat_natCast, and_self, and_true, imp_self, gd_true]
    cases q <;> rfl
  · have c1 : ilt ((0 + K : Nat) : Int) (K : Int) = false := by rw [ilt_d]; simp only [decide_eq_false_iff_not]; omega
    have hbl : b ≤ (K - 1) * b := Nat.le_mul_of_pos_left _ (by omega)
    have w4 : wr .i64 ((b : Int) + 1) = ((b + 1 : Nat) : Int) := cast1 (by omega)
    unfold g6_l21
    simp only [c1, cond_false, w4]
    cases q <;> rfl
  · rw [hf]; rfl
theorem l22_run {n col : Int} {K : Nat} {L : List Int} (hL : (waerX n col K).1 = L) (hK : K = 3 ∨ K = 4) (hl : L.length ≤ 40) (ho : okP (K : Int) col L) {a : Nat} (ha : a < L.length) :
    whileO (g6_l22 n col K ((a : Int), ())) (((1 : Int), ()) : Int × Unit) = some (.go (((a + 1 : Nat) : Int), ())) := by
  have wk : wr .i64 ((K : Int) - 1) = ((K - 1 : Nat) : Int) := by rw [wr_id (by omega)]; omega
  obtain ⟨D, hD⟩ : ∃ D, D = (L.length - a - 1) / (K - 1) := ⟨_, rfl⟩
  have hdl : D ≤ L.length - a - 1 := hD ▸ Nat.div_le_self _ _
  have wx : ∀ x : Nat, x ≤ 100 → wr .i64 (((K - 1 : Nat) : Int) * (x : Int)) = (((K - 1) * x : Nat) : Int) ∧ (K - 1) * x ≤ 300 := fun x hx => by
    have : (K - 1) * x ≤ 3 * 100 := Nat.mul_le_mul (by omega) hx
    rw [← Int.natCast_mul, wr_id (by omega)]
    exact ⟨rfl, by omega⟩
  refine whileO_nat (st := fun j : Nat => (((j : Int), ()) : Int × Unit)) (lo := 1) (hi := D + 1) (by omega) (fun b hb1 hb2 => ?_) ?_
  · have hb : b * (K - 1) ≤ L.length - a - 1 := (Nat.le_div_iff_mul_le (by omega)).1 (by rw [← hD]; omega)
    rw [Nat.mul_comm] at hb
    have w3 : wr .i64 ((a : Int) + (((K - 1) * b : Nat) : Int)) = ((a + (K - 1) * b : Nat) : Int) := by rw [wr_id (by omega)]; omega
    have c1 : ilt ((a + (K - 1) * b : Nat) : Int) (L.length : Int) = true := by rw [ilt_d]; simp only [decide_eq_true_eq]; omega
    unfold g6_l22 g6_c19
    simp only [hL, wk, (wx b (by omega)).1, w3, c1, cond_true]
    rw [l21_run hL hK hl ho hb1 (by omega)]
  · obtain ⟨x1, x2⟩ := wx (D + 1) (by omega)
    have hm : ¬ ((D + 1) * (K - 1) ≤ L.length - a - 1) := fun h => by
      have := (Nat.le_div_iff_mul_le (by omega)).2 h
      rw [← hD] at this
      omega
    rw [Nat.mul_comm] at hm
    have w3 : wr .i64 ((a : Int) + (((K - 1) * (D + 1) : Nat) : Int)) = ((a + (K - 1) * (D + 1) : Nat) : Int) := by rw [wr_id (by omega)]; omega
    have w4 : wr .i64 ((a : Int) + 1) = ((a + 1 : Nat) : Int) := cast1 (by omega)
    have c1 : ilt ((a + (K - 1) * (D + 1) : Nat) : Int) (L.length : Int) = false := by rw [ilt_d]; simp only [decide_eq_false_iff_not]; omega
    unfold g6_l22 g6_c19
    simp only [hL, wk, x1, w3, w4, c1, cond_false]
theorem l22_all {n col : Int} {K : Nat} {L : List Int} (hL : (waerX n col K).1 = L) (hK : K = 3 ∨ K = 4) (hl : L.length ≤ 40) (ho : okP (K : Int) col L) :
    whileO (fun (d4 : Int × Unit) => bif ilt d4.1 (L.length : Int) then whileO (g6_l22 n col K d4) (((1 : Int), ()) : Int × Unit) else some (Lp.out (Lp.out ((true, ()) : Bool × Unit)))) (((0 : Int), ()) : Int × Unit) = some (Lp.out (S := Int × Unit) ((true, ()) : Bool × Unit)) :=
  whileO_nat (st := fun j : Nat => (((j : Int), ()) : Int × Unit)) (lo := 0) (hi := L.length) (by omega) (fun a _ ha => by
    have c1 : ilt (a : Int) (L.length : Int) = true := by rw [ilt_d]; simp only [decide_eq_true_eq]; omega
    simp only [c1, cond_true]
    exact l22_run hL hK hl ho ha) (by
    have c1 : ilt (L.length : Int) (L.length : Int) = false := by rw [ilt_d]; simp only [decide_eq_false_iff_not]; omega
    simp only [c1, cond_false])

theorem beqB_self (b : Bool) : beqB b b = true := beqB_iff.2 rfl
theorem known1 {col : Int} (hc : col = 1 ∨ col = 2 ∨ col = 3) : g6_c1 col = knownS col ∧ g6_c9 col = knownF col 3 ∧ g6_c10 col = knownF col 4 := by
  rcases hc with rfl | rfl | rfl <;> exact ⟨rfl, rfl, rfl⟩
theorem schur_facts {n col : Int} (h : argsOk n col = true) : ieq (schurX n col).2.1 0 = decide (n ≤ knownS col) ∧ ieq (schurX n col).2.1 4 = !decide (n ≤ knownS col) ∧ ieq (schurX n col).2.1 2 = false ∧ okP 0 col (schurX n col).1 ∧ (decide (n ≤ knownS col) = true → ieq ((schurX n col).1.length : Int) n = true) ∧ ((schurX n col).1.length : Int) ≤ n := by
  obtain ⟨h1, h2, h3, h4⟩ := argsOk_iff.1 h
  have hx : schurX n col = colX 0 n col := by unfold schurX; rw [h]; rfl
  rw [hx]
  exact colX_facts (by omega) (by omega) (some_sum (by omega) h1) (none_sum (by omega))
theorem waer_facts {n col k : Int} (h : argsW n col k = true) : ieq (waerX n col k).2.1 0 = decide (n ≤ knownF col k) ∧ ieq (waerX n col k).2.1 4 = !decide (n ≤ knownF col k) ∧ ieq (waerX n col k).2.1 2 = false ∧ okP k col (waerX n col k).1 ∧ (decide (n ≤ knownF col k) = true → ieq ((waerX n col k).1.length : Int) n = true) ∧ ((waerX n col k).1.length : Int) ≤ n := by
  obtain ⟨h1, h2, h3⟩ := argsW_iff.1 h
  obtain ⟨q1, q2, q3, q4⟩ := argsOk_iff.1 h1
  rw [waer_col h]
  refine colX_facts (by omega) (by omega) (some_step h) (fun hn => none_step (by omega) h3 (fun ⟨a, b⟩ => ?_) hn)
  subst a; subst b
  have : knownF 3 4 = 40 := rfl
  omega

theorem goal6 : con6.goal Try.prog (spOf [con25, con28, con23]) g6_sh [] lm30 := by
  have e : (∀ (n col k : Int), g6 n col k = some (true, ())) = con6.goal Try.prog (spOf [con25, con28, con23]) g6_sh [] lm30 := by kernel_rfl
  rw [← e]
  intro n col k
  unfold g6
  simp only [args_cond, Bool.not_eq_true', Bool.not_eq_false', imp_self, gd_true]
  by_cases h : argsOk n col = true
  · obtain ⟨h1, h2, h3, h4⟩ := argsOk_iff.1 h
    have hc : col = 1 ∨ col = 2 ∨ col = 3 := by omega
    obtain ⟨s0, s4, s2, so, sl, sle⟩ := schur_facts h
    obtain ⟨k1, k9, k10⟩ := known1 hc
    have si : ile n (g6_c1 col) = decide (n ≤ knownS col) := by rw [k1, ile_d]
    generalize decide (n ≤ knownS col) = s at s0 s4 sl si
    have t1 : (bif !s then !!s else false) = false := by cases s <;> rfl
    have t2 : (bif s then !ieq ((schurX n col).1.length : Int) n else false) = false := by
      cases s with
      | true => rw [sl rfl]; rfl
      | false => rfl
    have hcr : ((0 : Int) ≤ col ∧ col < 4) = True := by simp only [eq_iff_iff, iff_true]; omega
    unfold g6_c2 g6_c3 g6_c4
    simp only [h, s0, s4, s2, si, beqB_self, t1, t2, hcr, Bool.not_true, Bool.not_false, Bool.true_and, cond_true, cond_false, imp_self, gd_true, true_imp_iff, and_self, true_and, implies_true]
    rw [gd_pos (by cases s <;> decide)]
    obtain ⟨L, hL⟩ : ∃ L, (schurX n col).1 = L := ⟨_, rfl⟩
    rw [hL] at so sle
    refine whileO_nat (st := fun j : Nat => (((j : Int), ()) : Int × Unit)) (lo := 1) (hi := L.length + 1) (by omega) (fun i hi1 hi2 => ?_) ?_
    · have w1 : wr .i64 ((i : Int) - 1) = ((i - 1 : Nat) : Int) := by rw [wr_id (by omega)]; omega
      have c1 : ile (i : Int) (L.length : Int) = true := by rw [ile_d]; simp only [decide_eq_true_eq]; omega
      have c2 : ((0 : Int) ≤ ((i - 1 : Nat) : Int) ∧ ((i - 1 : Nat) : Int) < (L.length : Int)) = True := by simp only [eq_iff_iff, iff_true]; omega
      obtain ⟨o1, o2, o3⟩ := so (i - 1) (by omega)
      have c3 : ilt (L.getD (i - 1) 0) 0 = false := by rw [ilt_d]; simp only [decide_eq_false_iff_not]; omega
      have c4 : ile col (L.getD (i - 1) 0) = false := by rw [ile_d]; simp only [decide_eq_false_iff_not]; omega
      unfold g6_c5
      simp only [hL, w1, c1, c2, c3, c4, cond_true, cond_false, gd_true, Int.toNat_natCast, and_self, and_true, imp_self]
      exact l8_run hL (by omega) so hi1 (by omega)
    · have c1 : ile ((L.length + 1 : Nat) : Int) (L.length : Int) = false := by rw [ile_d]; simp only [decide_eq_false_iff_not]; omega
      simp only [hL, c1, cond_false]
      by_cases hw : argsW n col k = true
      · obtain ⟨_, _, hk⟩ := argsW_iff.1 hw
        obtain ⟨s0, s4, s2, so, sl, sle⟩ := waer_facts hw
        have hkk : (bif !ieq k 3 then !ieq k 4 else false) = false := by rcases hk with rfl | rfl <;> rfl
        simp only [s2, Bool.not_false, Bool.true_and, true_imp_iff, true_and, and_self, cond_false, cond_true, hkk]
        rw [gd_pos (fun h => by rw [h]; rfl)]
        rcases hk with rfl | rfl
        · have si : ile n (g6_c9 col) = decide (n ≤ knownF col 3) := by rw [k9, ile_d]
          rw [cond_f (by rfl)]
          generalize decide (n ≤ knownF col 3) = s at s0 s4 sl si
          have t1 : (bif !s then !!s else false) = false := by cases s <;> rfl
          have t2 : (bif s then !ieq ((waerX n col 3).1.length : Int) n else false) = false := by
            cases s with
            | true => rw [sl rfl]; rfl
            | false => rfl
          unfold g6_c17 g6_c18
          simp only [s0, s4, si, beqB_self, t1, t2, Bool.not_true, Bool.not_false, Bool.true_and, cond_true, cond_false, imp_self, gd_true, true_imp_iff, and_self, true_and, implies_true]
          rw [gd_pos (by cases s <;> decide)]
          exact l22_all (K := 3) rfl (.inl rfl) (by omega) so
        · have si : ile n (g6_c10 col) = decide (n ≤ knownF col 4) := by rw [k10, ile_d]
          rw [cond_t (by rfl)]
          generalize decide (n ≤ knownF col 4) = s at s0 s4 sl si
          have t1 : (bif !s then !!s else false) = false := by cases s <;> rfl
          have t2 : (bif s then !ieq ((waerX n col 4).1.length : Int) n else false) = false := by
            cases s with
            | true => rw [sl rfl]; rfl
            | false => rfl
          unfold g6_c11 g6_c12
          simp only [s0, s4, si, beqB_self, t1, t2, Bool.not_true, Bool.not_false, Bool.true_and, cond_true, cond_false, imp_self, gd_true, true_imp_iff, and_self, true_and, implies_true]
          rw [gd_pos (by cases s <;> decide)]
          exact l16_all (K := 4) rfl (.inr rfl) (by omega) so
      · have hx : waerX n col k = ([], 2, ()) := by unfold waerX; rw [if_neg hw]
        have i2 : ieq 2 2 = true := rfl
        simp only [hx, i2, cond_true, Bool.true_eq_false, false_imp_iff, gd_true]
  · have h := Bool.eq_false_iff.2 h
    have hx : schurX n col = ([], 2, ()) := by unfold schurX; rw [h]; rfl
    have hw : waerX n col k = ([], 2, ()) := by unfold waerX argsW; rw [h]; rfl
    have i0 : ieq 0 0 = true := rfl
    have i2 : ieq 2 2 = true := rfl
    unfold g6_c0
    simp only [h, hx, hw, Bool.not_false, cond_true, List.length_nil, Int.natCast_zero, i0, i2, imp_self, gd_true]
set_option maxRecDepth 100000 in
theorem ok6 : con6.Ok Try.prog := Con.of_goal mixed (okC ok25 (okC ok28 (okC ok23 okN))) con6 goal6
end Go.Caps
