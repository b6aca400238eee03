/- Turned over, and products: contracts of the law. -/
import Derived.Test.YtibpopddoggnkaaXU
set_option linter.unusedVariables false
set_option linter.unusedSimpArgs false
namespace Go.Signs
open Go Go.Ab Go.Proofs

end Go.Signs

set_option linter.unusedVariables false
set_option linter.unusedSimpArgs false
namespace Go.Signs
open Go Go.Ab Go.Proofs

/-! ### Rows and columns -/
def orth (e : Nat → Nat → Int) (n : Nat) : Prop := ∀ i k, i < n → k < n → i ≠ k → sumN (fun j => e i j * e k j) n = 0
theorem sumN_zero_all {f : Nat → Int} {n : Nat} (h : ∀ i, i < n → 0 ≤ f i) (hs : sumN f n ≤ 0) : ∀ i, i < n → f i = 0 := by
  have ge : ∀ {n i : Nat}, i < n → (∀ k, k < n → 0 ≤ f k) → f i ≤ sumN f n := by
    intro n
    induction n with
    | zero => intro i hi; omega
    | succ n ih =>
      intro i hi h
      rw [sumN]
      by_cases hn : i = n
      · subst hn
        have : 0 ≤ sumN f i := by
          have := sumN_le (n := i) (f := fun _ => 0) (g := f) fun k hk => h k (by omega)
          rwa [sumN_zero] at this
        omega
      · have := ih (i := i) (by omega) fun k hk => h k (by omega)
        have := h n (by omega)
        omega
  intro i hi
  have h1 := ge hi h
  have h2 := h i hi
  omega
theorem sumN_diag {c : Int} {j n : Nat} (hj : j < n) : sumN (fun k => if k = j then c else 0) n = c := by
  rw [sumN_one (i := j) hj fun k _ hne => if_neg hne, if_pos rfl]
theorem sumN_sub {f g : Nat → Int} {n : Nat} : sumN (fun i => f i - g i) n = sumN f n - sumN g n := by
  have : sumN (fun i => f i - g i) n = sumN (fun i => f i + (-1) * g i) n := sumN_congr fun i _ => by omega
  rw [this, sumN_add, sumN_mul]; omega
/-- If the rows are orthogonal, the columns are, too. -/
theorem orth_over {e : Nat → Nat → Int} {n : Nat} (he : ∀ i j, e i j * e i j = 1) (h : orth e n) : orth (fun i j => e j i) n := by
  have hself : ∀ i, sumN (fun j => e i j * e i j) n = n := fun i => by rw [sumN_congr (g := fun _ => 1) fun j _ => he i j, sumN_const, Int.mul_one]
  have hself' : ∀ j, sumN (fun i => e i j * e i j) n = n := fun j => by rw [sumN_congr (g := fun _ => 1) fun i _ => he i j, sumN_const, Int.mul_one]
  -- all squares of the products of two columns
  have hsq : sumN (fun j => sumN (fun k => sumN (fun i => e i j * e i k) n * sumN (fun i => e i j * e i k) n) n) n = n * (n * n) := by
    have e1 : sumN (fun j => sumN (fun k => sumN (fun i => e i j * e i k) n * sumN (fun i => e i j * e i k) n) n) n = sumN (fun i => sumN (fun i' => sumN (fun j => e i j * e i' j) n * sumN (fun k => e i k * e i' k) n) n) n := by
      have a1 : sumN (fun j => sumN (fun k => sumN (fun i => e i j * e i k) n * sumN (fun i => e i j * e i k) n) n) n = sumN (fun j => sumN (fun k => sumN (fun i => sumN (fun i' => (e i j * e i k) * (e i' j * e i' k)) n) n) n) n :=
        sumN_congr fun j _ => sumN_congr fun k _ => sumN_sq
      have a2 : sumN (fun j => sumN (fun k => sumN (fun i => sumN (fun i' => (e i j * e i k) * (e i' j * e i' k)) n) n) n) n = sumN (fun j => sumN (fun i => sumN (fun i' => sumN (fun k => (e i j * e i k) * (e i' j * e i' k)) n) n) n) n :=
        sumN_congr fun j _ => by rw [sumN_swap]; exact sumN_congr fun i _ => sumN_swap
      have a3 : sumN (fun j => sumN (fun i => sumN (fun i' => sumN (fun k => (e i j * e i k) * (e i' j * e i' k)) n) n) n) n = sumN (fun i => sumN (fun i' => sumN (fun j => sumN (fun k => (e i j * e i k) * (e i' j * e i' k)) n) n) n) n := by
        rw [sumN_swap]
        exact sumN_congr fun i _ => sumN_swap
      rw [a1, a2, a3]
      refine sumN_congr fun i _ => sumN_congr fun i' _ => ?_
      have a4 : ∀ j, sumN (fun k => (e i j * e i k) * (e i' j * e i' k)) n = (e i j * e i' j) * sumN (fun k => e i k * e i' k) n := fun j => by
        rw [← sumN_mul]
        exact sumN_congr fun k _ => by grind
      rw [sumN_congr fun j _ => a4 j]
      have a5 : sumN (fun j => e i j * e i' j * sumN (fun k => e i k * e i' k) n) n = sumN (fun j => sumN (fun k => e i k * e i' k) n * (e i j * e i' j)) n := sumN_congr fun j _ => Int.mul_comm _ _
      rw [a5, sumN_mul]
    rw [e1]
    have e2 : ∀ i, i < n → sumN (fun i' => sumN (fun j => e i j * e i' j) n * sumN (fun k => e i k * e i' k) n) n = n * n := fun i hi => by
      rw [sumN_one hi fun k hk hne => by rw [h i k hi hk (fun e => hne e.symm), Int.mul_zero], hself i]
    rw [sumN_congr e2, sumN_const]
  have hF : sumN (fun j => sumN (fun k => sumN (fun i => e i j * e i k) n * sumN (fun i => e i j * e i k) n - (if k = j then ((n : Int) * n) else 0)) n) n ≤ 0 := by
    have : sumN (fun j => sumN (fun k => sumN (fun i => e i j * e i k) n * sumN (fun i => e i j * e i k) n - (if k = j then ((n : Int) * n) else 0)) n) n = n * (n * n) - n * (n * n) := by
      rw [sumN_congr fun j _ => sumN_sub, sumN_sub, hsq]
      congr 1
      rw [sumN_congr (g := fun _ => (n : Int) * n) fun j hj => sumN_diag hj, sumN_const]
    omega
  have hpos : ∀ j k, 0 ≤ sumN (fun i => e i j * e i k) n * sumN (fun i => e i j * e i k) n - (if k = j then ((n : Int) * n) else 0) := fun j k => by
    by_cases hk : k = j
    · subst hk
      rw [if_pos rfl, hself' k]; omega
    · rw [if_neg hk]
      have := sq_pos (x := sumN (fun i => e i j * e i k) n)
      omega
  intro j k hj hk hne
  have h1 := sumN_zero_all (fun j hj => by
    have := sumN_le (n := n) (f := fun _ => 0) (g := fun k => sumN (fun i => e i j * e i k) n * sumN (fun i => e i j * e i k) n - (if k = j then ((n : Int) * n) else 0)) fun k _ => hpos j k
    rwa [sumN_zero] at this) hF j hj
  have h2 := sumN_zero_all (fun k _ => hpos j k) (Int.le_of_eq h1) k hk
  rw [if_neg (fun e => hne e.symm), Int.sub_zero] at h2
  rcases Int.mul_eq_zero.1 h2 with h3 | h3 <;> exact h3

section
variable {l : List Int} {m : Int}
theorem bal_orth (h : isM l 16 = true) : balF l = true ↔ orth (ent l) l.length := bal_dot h
/-! ### Made matrices -/
theorem made_isM {n : Nat} {f : Int → Int → Bool} (h1 : 1 ≤ n) (h2 : n ≤ 16) : isM (madeF n f) 16 = true := by
  unfold isM
  simp only [Bool.and_eq_true, decide_eq_true_eq, List.all_eq_true, inM_d, made_len, Int.toNat_natCast]
  refine ⟨⟨by omega, by omega⟩, fun x hx => ?_⟩
  obtain ⟨i, hi, rfl⟩ := List.mem_map.1 hx
  have h3 := rowN_lt (g := f i) (j := n)
  have h5 : ((2 ^ n : Nat) : Int) = (2 : Int) ^ n := by rw [Int.natCast_pow]; rfl
  omega
theorem made_ent {n : Nat} {f : Int → Int → Bool} {i j : Nat} (hi : i < n) (hj : j < n) : ent (madeF n f) i j = sg (f i j) := by
  have : nx (madeF n f) i = rowN (f i) n := by
    unfold nx
    rw [gd_at (by rw [made_len]; exact hi)]
    simp [madeF]
  unfold ent
  rw [this, rowN_bit, decide_eq_true hj, Bool.true_and]
theorem orth_congr {e e' : Nat → Nat → Int} {n : Nat} (h : ∀ i j, i < n → j < n → e i j = e' i j) : orth e n ↔ orth e' n := by
  have key : ∀ i k, i < n → k < n → sumN (fun j => e i j * e k j) n = sumN (fun j => e' i j * e' k j) n := fun i k hi hk => sumN_congr fun j hj => by rw [h i j hi hj, h k j hk hj]
  constructor
  · intro ho i k hi hk hne; rw [← key i k hi hk]; exact ho i k hi hk hne
  · intro ho i k hi hk hne; rw [key i k hi hk]; exact ho i k hi hk hne
theorem bool_eq {a b : Bool} (h : a = true ↔ b = true) : a = b := Bool.eq_iff_iff.2 h
/-- Signs of rows and columns do not matter. -/
theorem orth_sgn {e : Nat → Nat → Int} {n : Nat} {r c : Nat → Int} (hr : ∀ i, r i * r i = 1) (hc : ∀ j, c j * c j = 1) : orth (fun i j => e i j * c j * r i) n ↔ orth e n := by
  have key : ∀ i k, sumN (fun j => (e i j * c j * r i) * (e k j * c j * r k)) n = (r i * r k) * sumN (fun j => e i j * e k j) n := fun i k => by
    rw [← sumN_mul]
    refine sumN_congr fun j _ => ?_
    have := hc j
    grind
  constructor
  · intro ho i k hi hk hne
    have h1 := ho i k hi hk hne
    rw [key] at h1
    rcases Int.mul_eq_zero.1 h1 with h2 | h2
    · exfalso
      have h3 := hr i
      have h4 := hr k
      rcases Int.mul_eq_zero.1 h2 with h5 | h5
      · rw [h5] at h3; simp at h3
      · rw [h5] at h4; simp at h4
    · exact h2
  · intro ho i k hi hk hne
    rw [key, ho i k hi hk hne, Int.mul_zero]
theorem norm_isM (h : isM l 16 = true) : isM (normF l) 16 = true := by
  have h16 := len16 (by omega) h
  rw [← nor_made h]
  exact made_isM h16.2 h16.1
theorem norm_bal (h : isM l 16 = true) : balF (normF l) = balF l := by
  have h16 := len16 (by omega) h
  refine bool_eq ?_
  rw [bal_orth (norm_isM h), bal_orth h, norm_len]
  have he : ∀ i j, i < l.length → j < l.length → ent (normF l) i j = ent l i j * ent l 0 j * (ent l i 0 * ent l 0 0) := fun i j hi hj => by
    rw [← nor_made h, made_ent hi hj]
    unfold norB
    rw [Int.toNat_natCast, Int.toNat_natCast, norR_bit hj, Nat.testBit_xor, Nat.testBit_xor, sg_xor, sg_xor, sg_xor]
    rfl
  rw [orth_congr he]
  refine orth_sgn (r := fun i => ent l i 0 * ent l 0 0) (c := fun j => ent l 0 j) (fun i => ?_) (fun j => ent_sq)
  have h1 := ent_sq (l := l) (i := i) (j := 0)
  have h2 := ent_sq (l := l) (i := 0) (j := 0)
  grind
/-- The rows of a normal form are even, and row 0 is 0. -/
theorem norm_even (h : isM l 16 = true) {i : Nat} (hi : i < l.length) : (normF l).getD i 0 = (normR l.length (nx l 0) (nx l i) : Int) ∧ normR l.length (nx l 0) (nx l i) % 2 = 0 ∧ (i = 0 → normR l.length (nx l 0) (nx l i) = 0) := by
  refine ⟨?_, ?_, ?_⟩
  · rw [gd_at (by rw [norm_len]; exact hi)]
    simp only [normF, List.getElem_map]
    unfold nx
    rw [gd_at hi]
  · have := norR_bit (n := l.length) (h := nx l 0) (r := nx l i) (j := 0) (by omega)
    rw [Bool.xor_self, Nat.testBit_zero] at this
    simp at this
    omega
  · rintro rfl
    unfold normR
    rw [Nat.xor_self]
    rfl

/-! ### Four rows each -/
theorem sum_dvd {f : Nat → Int} : ∀ {n : Nat}, (∀ i, i < n → f i % 4 = 0) → sumN f n % 4 = 0
  | 0, _ => rfl
  | n + 1, h => by
    have h1 := sum_dvd (n := n) fun i hi => h i (by omega)
    have h2 := h n (by omega)
    rw [sumN]; omega
theorem bal_four (h : isM l 16 = true) (hb : balF l = true) (h3 : 3 ≤ l.length) : (l.length : Int) % 4 = 0 := by
  have ho := (bal_orth h).1 hb
  have e1 : sumN (fun j => (ent l 0 j + ent l 1 j) * (ent l 0 j + ent l 2 j)) l.length = l.length := by
    have e2 : sumN (fun j => (ent l 0 j + ent l 1 j) * (ent l 0 j + ent l 2 j)) l.length = sumN (fun j => (ent l 0 j * ent l 0 j + ent l 0 j * ent l 2 j) + (ent l 1 j * ent l 0 j + ent l 1 j * ent l 2 j)) l.length := sumN_congr fun j _ => by grind
    rw [e2, sumN_add, sumN_add, sumN_add, ho 0 2 (by omega) (by omega) (by omega), ho 1 0 (by omega) (by omega) (by omega), ho 1 2 (by omega) (by omega) (by omega)]
    have : sumN (fun j => ent l 0 j * ent l 0 j) l.length = l.length := dot_self (l := l) (i := 0)
    rw [this]; omega
  have e3 := sum_dvd (n := l.length) (f := fun j => (ent l 0 j + ent l 1 j) * (ent l 0 j + ent l 2 j)) fun j _ => by
    unfold ent
    cases (nx l 0).testBit j <;> cases (nx l 1).testBit j <;> cases (nx l 2).testBit j <;> rfl
  rw [e1] at e3
  exact e3

/-! ### Products -/
theorem sumN_append {f : Nat → Int} {a : Nat} : ∀ b, sumN f (a + b) = sumN f a + sumN (fun v => f (a + v)) b
  | 0 => by rw [Nat.add_zero, sumN]; omega
  | b + 1 => by
    rw [← Nat.add_assoc, sumN, sumN_append b, sumN]; omega
end

/-! ### The documented ones -/
end Go.Signs

set_option linter.unusedVariables false
set_option linter.unusedSimpArgs false
namespace Go.Signs
open Go Go.Ab Go.Proofs

section
variable {n i j : Nat} {f : Int → Int → Bool}
end

end Go.Signs
