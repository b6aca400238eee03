/- The law Sets: contracts. -/
import Derived.Test.YtiiiojjaphckbaaXK
import Derived.Test.YtiiiojjaphckbaaSS
import Derived.Test.YtiiiojjaphckbaaXR
import Derived.Test.YtiiiojjaphckbaaXT
set_option linter.unusedVariables false
set_option linter.unusedSimpArgs false
namespace Go.Caps
open Go Go.Ab Go.Proofs

end Go.Caps

set_option linter.unusedVariables false
set_option linter.unusedSimpArgs false
namespace Go.Caps
open Go Go.Ab Go.Proofs

def dsum (g : Nat → Int) : Nat → Int
  | 0 => 0
  | n + 1 => dsum g n + g n * p3 n
def dig (x : Int) (i : Nat) : Int := x / p3 i % 3
def tri (x y : Int) : Int := (6 - x - y) % 3
theorem dig_bd (x : Int) (i : Nat) : 0 ≤ dig x i ∧ dig x i ≤ 2 := by unfold dig; omega
theorem tsum_d (a b : Int) : ∀ n, tsum n a b = dsum (fun i => tri (dig a i) (dig b i)) n
  | 0 => rfl
  | n + 1 => by simp only [tsum, dsum, tsum_d a b n]; rfl
theorem dsum_congr {g h : Nat → Int} : ∀ {n : Nat}, (∀ i, i < n → g i = h i) → dsum g n = dsum h n
  | 0, _ => rfl
  | n + 1, e => by simp only [dsum, e n (by omega), dsum_congr (n := n) fun i hi => e i (by omega)]
theorem p3_pos : ∀ n, 0 < p3 n
  | 0 => by decide
  | n + 1 => by have := p3_pos n; simp only [p3]; omega
theorem p3_add (m : Nat) : ∀ k, p3 (m + k) = p3 m * p3 k
  | 0 => by simp [p3]
  | k + 1 => by rw [← Nat.add_assoc]; simp only [p3, p3_add m k, Int.mul_assoc]
theorem dsum_rng {g : Nat → Int} (h : ∀ i, 0 ≤ g i ∧ g i ≤ 2) : ∀ n, 0 ≤ dsum g n ∧ dsum g n < p3 n
  | 0 => by simp [dsum, p3]
  | n + 1 => by
    have h1 := dsum_rng h n
    have h2 := h n
    have h3 := p3_pos n
    have h4 : 0 ≤ g n * p3 n := Int.mul_nonneg h2.1 (by omega)
    have h5 : g n * p3 n ≤ 2 * p3 n := Int.mul_le_mul_of_nonneg_right h2.2 (by omega)
    simp only [dsum, p3]
    omega
theorem dsum_dig {g : Nat → Int} (h : ∀ i, 0 ≤ g i ∧ g i ≤ 2) : ∀ (n i : Nat), i < n → dig (dsum g n) i = g i
  | n + 1, i, hi => by
    have h1 := dsum_rng h n
    have h2 := h n
    have h3 := p3_pos n
    unfold dig
    simp only [dsum]
    by_cases e : i = n
    · subst e
      rw [Int.add_mul_ediv_right _ _ (by omega), Int.ediv_eq_zero_of_lt h1.1 h1.2]
      omega
    · have ih := dsum_dig h n i (by omega)
      unfold dig at ih
      obtain ⟨k, rfl⟩ : ∃ k, n = i + (k + 1) := ⟨n - i - 1, by omega⟩
      have hp := p3_pos i
      have e2 : g (i + (k + 1)) * p3 (i + (k + 1)) = (g (i + (k + 1)) * p3 k * 3) * p3 i := by
        rw [p3_add]; simp only [p3, Int.mul_comm, Int.mul_left_comm, Int.mul_assoc]
      rw [e2, Int.add_mul_ediv_right _ _ (by omega), Int.add_mul_emod_self_right]
      exact ih
theorem num_mod {x : Int} (h0 : 0 ≤ x) : ∀ n, dsum (dig x) n = x % p3 n
  | 0 => by simp [dsum, p3, Int.emod_one]
  | n + 1 => by
    have h3 := p3_pos n
    have e1 := Int.emod_add_mul_ediv x (p3 n)
    have r1 := Int.emod_nonneg x (b := p3 n) (by omega)
    have r2 := Int.emod_lt_of_pos x h3
    have e2 := Int.emod_add_mul_ediv (x / p3 n) 3
    have r3 : 0 ≤ x / p3 n % 3 ∧ x / p3 n % 3 ≤ 2 := by omega
    simp only [dsum, num_mod h0 n, p3, dig]
    have h4 : 0 ≤ x / p3 n % 3 * p3 n := Int.mul_nonneg r3.1 (by omega)
    have h5 : x / p3 n % 3 * p3 n ≤ 2 * p3 n := Int.mul_le_mul_of_nonneg_right r3.2 (by omega)
    have e3 : x = (x % p3 n + x / p3 n % 3 * p3 n) + p3 n * 3 * (x / p3 n / 3) := by
      generalize x % p3 n = r at *
      generalize x / p3 n = q at *
      generalize q % 3 = s at *
      generalize q / 3 = t at *
      subst e2
      rw [← e1, Int.mul_add, Int.mul_comm (p3 n) s, Int.mul_assoc]
      omega
    have e4 := congrArg (· % (p3 n * 3)) e3
    simp only [Int.add_mul_emod_self_left] at e4
    rw [e4]
    exact (Int.emod_eq_of_lt (by omega) (by omega)).symm
theorem num_dig {x : Int} {n : Nat} (h0 : 0 ≤ x) (h1 : x < p3 n) : dsum (dig x) n = x := by
  rw [num_mod h0, Int.emod_eq_of_lt h0 h1]
theorem tri_bd (x y : Int) : 0 ≤ tri x y ∧ tri x y ≤ 2 := by unfold tri; omega

theorem size_p3 {d : Int} (h : isD d = true) : sizeF d = p3 d.toNat := by
  rcases isD_cases h with rfl | rfl | rfl | rfl <;> rfl
section
variable {n : Nat} {a b m : Int}
theorem t_comm : tsum n a b = tsum n b a := by
  rw [tsum_d, tsum_d]
  exact dsum_congr fun i _ => by unfold tri; omega
theorem t_rng : 0 ≤ tsum n a b ∧ tsum n a b < p3 n := by rw [tsum_d]; exact dsum_rng (fun i => tri_bd _ _) n
theorem t_inv (hb : 0 ≤ b ∧ b < p3 n) : tsum n a (tsum n a b) = b := by
  rw [tsum_d a (tsum n a b)]
  refine Eq.trans (dsum_congr fun i hi => ?_) (num_dig (n := n) hb.1 hb.2)
  rw [tsum_d, dsum_dig (fun i => tri_bd _ _) n i hi]
  have h1 := dig_bd a i
  have h2 := dig_bd b i
  unfold tri
  omega
theorem t_self (ha : 0 ≤ a ∧ a < p3 n) : tsum n a a = a := by
  rw [tsum_d]
  refine Eq.trans (dsum_congr fun i hi => ?_) (num_dig (n := n) ha.1 ha.2)
  have h1 := dig_bd a i
  unfold tri
  omega
theorem t_ne (ha : 0 ≤ a ∧ a < p3 n) (hb : 0 ≤ b ∧ b < p3 n) (hab : a ≠ b) : tsum n a b ≠ a ∧ tsum n a b ≠ b := by
  constructor
  · intro h
    have := t_inv (n := n) (a := a) hb
    rw [h, t_self ha] at this
    exact hab this
  · intro h
    rw [t_comm] at h
    have := t_inv (n := n) (a := b) ha
    rw [h, t_self hb] at this
    exact hab this.symm
end

end Go.Caps

set_option linter.unusedVariables false
set_option linter.unusedSimpArgs false
namespace Go.Caps
open Go Go.Ab Go.Proofs

def rngL (n : Nat) : List Int := (List.range n).map (fun (b : Nat) => (b : Int))
end Go.Caps

set_option linter.unusedVariables false
set_option linter.unusedSimpArgs false
namespace Go.Caps
open Go Go.Ab Go.Proofs

noncomputable def con19s : SCon := mkS 19 [.v LI] [] [.slf 0 1] [.arr I64 true] (fun (l : List Int) => []) (fun (l : List Int) => (l.take 90, ()))
noncomputable def g19s (x0 : List Int) : Option (List Int × Unit) := gd ((0 : Int) ≤ imin (↑(List.length x0) : Int) (90 : Int) ∧ imin (↑(List.length x0) : Int) (90 : Int) ≤ (↑(List.length x0) : Int)) (gd (List.length (List.take (Int.toNat (imin (↑(List.length x0) : Int) (90 : Int))) x0) ≤ (100000 : Nat)) (gd (List.length (List.take (Int.toNat (imin (↑(List.length x0) : Int) (90 : Int))) x0) = List.length (List.take (Int.toNat (imin (↑(List.length x0) : Int) (90 : Int))) x0)) (some ((List.take (Int.toNat (imin (↑(List.length x0) : Int) (90 : Int))) x0, ()) : List Int × Unit))))
noncomputable def g19s_sh : List LSh := ([] : List LSh)
noncomputable def con14 : Con := mkC 14 [.d I64, .d LI, .d I64] [.bool] (fun (d : Int) (l : List Int) (x : Int) => [small l]) (fun (d : Int) (l : List Int) (x : Int) => (true, ()))
noncomputable def g14_c0 (x0 : Int) : Int := (@id Int (arrGet (5 : Nat) (Ty.int IntKind.i64) ((((0 : Int), (2 : Int), (4 : Int), (9 : Int), (20 : Int), ()) : Int × Int × Int × Int × Int × Unit) : Int × Int × Int × Int × Int × Unit) (Int.toNat x0)))
noncomputable def g14_c1 (x0 : Int) : Bool := !!beqB (ieq (grtX x0).2.1 (0 : Int)) (ile x0 (3 : Int)) && (!!beqB (ieq (grtX x0).2.1 (0 : Int)) (ile x0 (3 : Int)) && ieq (grtX x0).2.1 (0 : Int))
noncomputable def g14_c2 (x0 : Int) : Bool := !bif !beqB (ieq (grtX x0).2.1 (0 : Int)) (ile x0 (3 : Int)) then true else bif ieq (grtX x0).2.1 (0 : Int) then !ieq (↑(List.length (grtX x0).1) : Int) (g14_c0 x0) else false
noncomputable def g14_c3 (x0 : Int) (x1 : List Int) : Bool := bif bif !beqB (ieq (grtX x0).2.1 (0 : Int)) (ile x0 (3 : Int)) then true else bif ieq (grtX x0).2.1 (0 : Int) then !ieq (↑(List.length (grtX x0).1) : Int) (g14_c0 x0) else false then true else bif (capX x0 (List.take (List.length (List.take (90 : Nat) x1)) (List.drop (0 : Nat) (List.take (90 : Nat) x1)))).1 then ilt (g14_c0 x0) (↑(List.length x1) : Int) else false
noncomputable def g14_c4 (x0 : Int) (x1 : List Int) (x2 : Int) : Bool := !List.contains (freeX x0 (List.take (List.length (List.take (90 : Nat) x1)) (List.drop (0 : Nat) (List.take (90 : Nat) x1)))).1 (wr IntKind.i64 (Int.tmod (wr IntKind.u64 x2) (wr IntKind.u64 (sizeF x0))))
noncomputable def g14_c5 (x0 : Int) (x1 : List Int) (x2 : Int) : Bool := bif bif ieq (freeX x0 (List.take (List.length (List.take (90 : Nat) x1)) (List.drop (0 : Nat) (List.take (90 : Nat) x1)))).2.1 (0 : Int) then g14_c4 x0 x1 x2 else false then true else false
noncomputable def g14_c6 (x0 : Int) (x1 : List Int) (x2 : Int) : Bool := (capX x0 (List.take (List.length (List.take (90 : Nat) x1) + (1 : Nat)) (List.drop (0 : Nat) (sortL (List.take (List.length (List.take (90 : Nat) x1)) (List.take (90 : Nat) x1) ++ wr IntKind.i64 (Int.tmod (wr IntKind.u64 x2) (wr IntKind.u64 (sizeF x0))) :: ([] : List Int)))))).1
noncomputable def g14_c7 (x0 : Int) (x1 : List Int) (x2 : Int) : Int := (capX x0 (List.take (List.length (List.take (90 : Nat) x1) + (1 : Nat)) (List.drop (0 : Nat) (sortL (List.take (List.length (List.take (90 : Nat) x1)) (List.take (90 : Nat) x1) ++ wr IntKind.i64 (Int.tmod (wr IntKind.u64 x2) (wr IntKind.u64 (sizeF x0))) :: ([] : List Int)))))).2.1
noncomputable def g14_c8 (x0 : Int) (x1 : List Int) (x2 : Int) : Bool := bif ieq (freeX x0 (List.take (List.length (List.take (90 : Nat) x1)) (List.drop (0 : Nat) (List.take (90 : Nat) x1)))).2.1 (0 : Int) then ieq (g14_c7 x0 x1 x2) (0 : Int) else false
noncomputable def g14_c9 (x0 : Int) (x1 : List Int) (x2 : Int) : Bool := beqB (g14_c6 x0 x1 x2) (List.contains (freeX x0 (List.take (List.length (List.take (90 : Nat) x1)) (List.drop (0 : Nat) (List.take (90 : Nat) x1)))).1 (wr IntKind.i64 (Int.tmod (wr IntKind.u64 x2) (wr IntKind.u64 (sizeF x0)))))
noncomputable def g14 (x0 : Int) (x1 : List Int) (x2 : Int) : Option (Bool × Unit) := gd ((0 : Nat) + List.length (List.take (90 : Nat) x1) ≤ List.length (List.take (90 : Nat) x1)) (gd (small (List.take (List.length (List.take (90 : Nat) x1)) (List.drop (0 : Nat) (List.take (90 : Nat) x1)))) (gd ((!!ieq (capX x0 (List.take (List.length (List.take (90 : Nat) x1)) (List.drop (0 : Nat) (List.take (90 : Nat) x1)))).2.1 (0 : Int)) = true → (!!ieq (capX x0 (List.take (List.length (List.take (90 : Nat) x1)) (List.drop (0 : Nat) (List.take (90 : Nat) x1)))).2.1 (0 : Int)) = true ∧ (!!ieq (capX x0 (List.take (List.length (List.take (90 : Nat) x1)) (List.drop (0 : Nat) (List.take (90 : Nat) x1)))).2.1 (0 : Int)) = true ∧ small x1) (gd ((!!ieq (capX x0 (List.take (List.length (List.take (90 : Nat) x1)) (List.drop (0 : Nat) (List.take (90 : Nat) x1)))).2.1 (0 : Int)) = true → (!!ieq (capX x0 (List.take (List.length (List.take (90 : Nat) x1)) (List.drop (0 : Nat) (List.take (90 : Nat) x1)))).2.1 (0 : Int)) = true) (gd ((!ieq (capX x0 (List.take (List.length (List.take (90 : Nat) x1)) (List.drop (0 : Nat) (List.take (90 : Nat) x1)))).2.1 (0 : Int)) = false → (!!ieq (capX x0 (List.take (List.length (List.take (90 : Nat) x1)) (List.drop (0 : Nat) (List.take (90 : Nat) x1)))).2.1 (0 : Int)) = true) (bif bif !ieq (capX x0 (List.take (List.length (List.take (90 : Nat) x1)) (List.drop (0 : Nat) (List.take (90 : Nat) x1)))).2.1 (0 : Int) then true else !okH x0 x1 then gd (ieq (capX x0 (List.take (List.length (List.take (90 : Nat) x1)) (List.drop (0 : Nat) (List.take (90 : Nat) x1)))).2.1 (2 : Int) = true → ieq (capX x0 (List.take (List.length (List.take (90 : Nat) x1)) (List.drop (0 : Nat) (List.take (90 : Nat) x1)))).2.1 (2 : Int) = true) (some ((bif ieq (capX x0 (List.take (List.length (List.take (90 : Nat) x1)) (List.drop (0 : Nat) (List.take (90 : Nat) x1)))).2.1 (2 : Int) then true else false, ()) : Bool × Unit)) else gd ((0 : Int) ≤ x0 ∧ x0 < (5 : Int)) (gd ((!!beqB (ieq (grtX x0).2.1 (0 : Int)) (ile x0 (3 : Int))) = true → (!!beqB (ieq (grtX x0).2.1 (0 : Int)) (ile x0 (3 : Int))) = true) (gd ((!!beqB (ieq (grtX x0).2.1 (0 : Int)) (ile x0 (3 : Int)) && (!!beqB (ieq (grtX x0).2.1 (0 : Int)) (ile x0 (3 : Int)) && ieq (grtX x0).2.1 (0 : Int))) = true → g14_c1 x0 = true) (gd ((!!beqB (ieq (grtX x0).2.1 (0 : Int)) (ile x0 (3 : Int)) && (!!beqB (ieq (grtX x0).2.1 (0 : Int)) (ile x0 (3 : Int)) && ieq (grtX x0).2.1 (0 : Int))) = true → g14_c1 x0 = true ∧ g14_c1 x0 = true) (gd ((!!beqB (ieq (grtX x0).2.1 (0 : Int)) (ile x0 (3 : Int))) = true → (!!beqB (ieq (grtX x0).2.1 (0 : Int)) (ile x0 (3 : Int))) = true ∧ (!!beqB (ieq (grtX x0).2.1 (0 : Int)) (ile x0 (3 : Int))) = true ∧ (ieq (grtX x0).2.1 (0 : Int) = true → g14_c1 x0 = true)) (gd ((!beqB (ieq (grtX x0).2.1 (0 : Int)) (ile x0 (3 : Int))) = false → (!!beqB (ieq (grtX x0).2.1 (0 : Int)) (ile x0 (3 : Int))) = true) (gd ((g14_c2 x0 && (g14_c2 x0 && (capX x0 (List.take (List.length (List.take (90 : Nat) x1)) (List.drop (0 : Nat) (List.take (90 : Nat) x1)))).1)) = true → (g14_c2 x0 && (g14_c2 x0 && (capX x0 (List.take (List.length (List.take (90 : Nat) x1)) (List.drop (0 : Nat) (List.take (90 : Nat) x1)))).1)) = true) (gd ((g14_c2 x0 && (g14_c2 x0 && (capX x0 (List.take (List.length (List.take (90 : Nat) x1)) (List.drop (0 : Nat) (List.take (90 : Nat) x1)))).1)) = true → (g14_c2 x0 && (g14_c2 x0 && (capX x0 (List.take (List.length (List.take (90 : Nat) x1)) (List.drop (0 : Nat) (List.take (90 : Nat) x1)))).1)) = true ∧ (g14_c2 x0 && (g14_c2 x0 && (capX x0 (List.take (List.length (List.take (90 : Nat) x1)) (List.drop (0 : Nat) (List.take (90 : Nat) x1)))).1)) = true) (gd ((!bif !beqB (ieq (grtX x0).2.1 (0 : Int)) (ile x0 (3 : Int)) then true else bif ieq (grtX x0).2.1 (0 : Int) then !ieq (↑(List.length (grtX x0).1) : Int) (g14_c0 x0) else false) = true → g14_c2 x0 = true ∧ g14_c2 x0 = true ∧ ((capX x0 (List.take (List.length (List.take (90 : Nat) x1)) (List.drop (0 : Nat) (List.take (90 : Nat) x1)))).1 = true → (g14_c2 x0 && (g14_c2 x0 && (capX x0 (List.take (List.length (List.take (90 : Nat) x1)) (List.drop (0 : Nat) (List.take (90 : Nat) x1)))).1)) = true)) (gd ((bif !beqB (ieq (grtX x0).2.1 (0 : Int)) (ile x0 (3 : Int)) then true else bif ieq (grtX x0).2.1 (0 : Int) then !ieq (↑(List.length (grtX x0).1) : Int) (g14_c0 x0) else false) = false → g14_c2 x0 = true) (bif g14_c3 x0 x1 then some ((false, ()) : Bool × Unit) else bif ieq (grtX x0).2.1 (0 : Int) then gd (small (grtX x0).1) (gd ((!!(capX x0 (grtX x0).1).1) = true → (!!(capX x0 (grtX x0).1).1) = true) (gd ((!(capX x0 (grtX x0).1).1) = false → (!!(capX x0 (grtX x0).1).1) = true) (bif bif !(capX x0 (grtX x0).1).1 then true else !ieq (capX x0 (grtX x0).1).2.1 (0 : Int) then some ((false, ()) : Bool × Unit) else gd ((0 : Nat) + List.length (List.take (90 : Nat) x1) ≤ List.length (List.take (90 : Nat) x1)) (gd (small (List.take (List.length (List.take (90 : Nat) x1)) (List.drop (0 : Nat) (List.take (90 : Nat) x1)))) (bif !(capX x0 (List.take (List.length (List.take (90 : Nat) x1)) (List.drop (0 : Nat) (List.take (90 : Nat) x1)))).1 then gd (ieq (freeX x0 (List.take (List.length (List.take (90 : Nat) x1)) (List.drop (0 : Nat) (List.take (90 : Nat) x1)))).2.1 (5 : Int) = true → ieq (freeX x0 (List.take (List.length (List.take (90 : Nat) x1)) (List.drop (0 : Nat) (List.take (90 : Nat) x1)))).2.1 (5 : Int) = true) (some ((bif ieq (freeX x0 (List.take (List.length (List.take (90 : Nat) x1)) (List.drop (0 : Nat) (List.take (90 : Nat) x1)))).2.1 (5 : Int) then true else false, ()) : Bool × Unit)) else gd (wr IntKind.u64 (sizeF x0) ≠ (0 : Int)) (gd (small x1) (bif List.contains x1 (wr IntKind.i64 (Int.tmod (wr IntKind.u64 x2) (wr IntKind.u64 (sizeF x0)))) then gd (ieq (freeX x0 (List.take (List.length (List.take (90 : Nat) x1)) (List.drop (0 : Nat) (List.take (90 : Nat) x1)))).2.1 (0 : Int) = true → ieq (freeX x0 (List.take (List.length (List.take (90 : Nat) x1)) (List.drop (0 : Nat) (List.take (90 : Nat) x1)))).2.1 (0 : Int) = true ∧ ieq (freeX x0 (List.take (List.length (List.take (90 : Nat) x1)) (List.drop (0 : Nat) (List.take (90 : Nat) x1)))).2.1 (0 : Int) = true ∧ small (freeX x0 (List.take (List.length (List.take (90 : Nat) x1)) (List.drop (0 : Nat) (List.take (90 : Nat) x1)))).1) (gd (ieq (freeX x0 (List.take (List.length (List.take (90 : Nat) x1)) (List.drop (0 : Nat) (List.take (90 : Nat) x1)))).2.1 (0 : Int) = true → ieq (freeX x0 (List.take (List.length (List.take (90 : Nat) x1)) (List.drop (0 : Nat) (List.take (90 : Nat) x1)))).2.1 (0 : Int) = true) (gd (ieq (freeX x0 (List.take (List.length (List.take (90 : Nat) x1)) (List.drop (0 : Nat) (List.take (90 : Nat) x1)))).2.1 (0 : Int) = true → ieq (freeX x0 (List.take (List.length (List.take (90 : Nat) x1)) (List.drop (0 : Nat) (List.take (90 : Nat) x1)))).2.1 (0 : Int) = true) (gd ((bif ieq (freeX x0 (List.take (List.length (List.take (90 : Nat) x1)) (List.drop (0 : Nat) (List.take (90 : Nat) x1)))).2.1 (0 : Int) then g14_c4 x0 x1 x2 else false) = true → (bif ieq (freeX x0 (List.take (List.length (List.take (90 : Nat) x1)) (List.drop (0 : Nat) (List.take (90 : Nat) x1)))).2.1 (0 : Int) then g14_c4 x0 x1 x2 else false) = true) (some ((g14_c5 x0 x1 x2, ()) : Bool × Unit))))) else gd (List.length (List.take (90 : Nat) x1) ≤ List.length (List.take (90 : Nat) x1)) (gd ((List.length (List.take (90 : Nat) x1) + (1 : Nat)) * (8 : Nat) ≤ (1099511627776 : Nat)) (gd (List.length (List.take (90 : Nat) x1) + (1 : Nat) = List.length (List.take (List.length (List.take (90 : Nat) x1)) (List.take (90 : Nat) x1) ++ wr IntKind.i64 (Int.tmod (wr IntKind.u64 x2) (wr IntKind.u64 (sizeF x0))) :: ([] : List Int))) (gd (List.length (List.take (List.length (List.take (90 : Nat) x1)) (List.take (90 : Nat) x1) ++ wr IntKind.i64 (Int.tmod (wr IntKind.u64 x2) (wr IntKind.u64 (sizeF x0))) :: ([] : List Int)) < (4611686018427387904 : Nat)) (gd ((0 : Nat) + (List.length (List.take (90 : Nat) x1) + (1 : Nat)) ≤ List.length (sortL (List.take (List.length (List.take (90 : Nat) x1)) (List.take (90 : Nat) x1) ++ wr IntKind.i64 (Int.tmod (wr IntKind.u64 x2) (wr IntKind.u64 (sizeF x0))) :: ([] : List Int)))) (gd (small (List.take (List.length (List.take (90 : Nat) x1) + (1 : Nat)) (List.drop (0 : Nat) (sortL (List.take (List.length (List.take (90 : Nat) x1)) (List.take (90 : Nat) x1) ++ wr IntKind.i64 (Int.tmod (wr IntKind.u64 x2) (wr IntKind.u64 (sizeF x0))) :: ([] : List Int)))))) (gd (ieq (freeX x0 (List.take (List.length (List.take (90 : Nat) x1)) (List.drop (0 : Nat) (List.take (90 : Nat) x1)))).2.1 (0 : Int) = true → ieq (freeX x0 (List.take (List.length (List.take (90 : Nat) x1)) (List.drop (0 : Nat) (List.take (90 : Nat) x1)))).2.1 (0 : Int) = true) (gd (ieq (freeX x0 (List.take (List.length (List.take (90 : Nat) x1)) (List.drop (0 : Nat) (List.take (90 : Nat) x1)))).2.1 (0 : Int) = true → ieq (freeX x0 (List.take (List.length (List.take (90 : Nat) x1)) (List.drop (0 : Nat) (List.take (90 : Nat) x1)))).2.1 (0 : Int) = true) (gd (g14_c8 x0 x1 x2 = true → g14_c8 x0 x1 x2 = true ∧ g14_c8 x0 x1 x2 = true ∧ small (freeX x0 (List.take (List.length (List.take (90 : Nat) x1)) (List.drop (0 : Nat) (List.take (90 : Nat) x1)))).1) (gd (g14_c8 x0 x1 x2 = true → g14_c8 x0 x1 x2 = true ∧ g14_c8 x0 x1 x2 = true) (gd (g14_c8 x0 x1 x2 = true → g14_c8 x0 x1 x2 = true) (gd ((bif g14_c8 x0 x1 x2 then g14_c9 x0 x1 x2 else false) = true → (bif g14_c8 x0 x1 x2 then g14_c9 x0 x1 x2 else false) = true) (some ((bif bif g14_c8 x0 x1 x2 then g14_c9 x0 x1 x2 else false then true else false, ()) : Bool × Unit)))))))))))))))))))) else gd ((0 : Nat) + List.length (List.take (90 : Nat) x1) ≤ List.length (List.take (90 : Nat) x1)) (gd (small (List.take (List.length (List.take (90 : Nat) x1)) (List.drop (0 : Nat) (List.take (90 : Nat) x1)))) (bif !(capX x0 (List.take (List.length (List.take (90 : Nat) x1)) (List.drop (0 : Nat) (List.take (90 : Nat) x1)))).1 then gd (ieq (freeX x0 (List.take (List.length (List.take (90 : Nat) x1)) (List.drop (0 : Nat) (List.take (90 : Nat) x1)))).2.1 (5 : Int) = true → ieq (freeX x0 (List.take (List.length (List.take (90 : Nat) x1)) (List.drop (0 : Nat) (List.take (90 : Nat) x1)))).2.1 (5 : Int) = true) (some ((bif ieq (freeX x0 (List.take (List.length (List.take (90 : Nat) x1)) (List.drop (0 : Nat) (List.take (90 : Nat) x1)))).2.1 (5 : Int) then true else false, ()) : Bool × Unit)) else gd (wr IntKind.u64 (sizeF x0) ≠ (0 : Int)) (gd (small x1) (bif List.contains x1 (wr IntKind.i64 (Int.tmod (wr IntKind.u64 x2) (wr IntKind.u64 (sizeF x0)))) then gd (ieq (freeX x0 (List.take (List.length (List.take (90 : Nat) x1)) (List.drop (0 : Nat) (List.take (90 : Nat) x1)))).2.1 (0 : Int) = true → ieq (freeX x0 (List.take (List.length (List.take (90 : Nat) x1)) (List.drop (0 : Nat) (List.take (90 : Nat) x1)))).2.1 (0 : Int) = true ∧ ieq (freeX x0 (List.take (List.length (List.take (90 : Nat) x1)) (List.drop (0 : Nat) (List.take (90 : Nat) x1)))).2.1 (0 : Int) = true ∧ small (freeX x0 (List.take (List.length (List.take (90 : Nat) x1)) (List.drop (0 : Nat) (List.take (90 : Nat) x1)))).1) (gd (ieq (freeX x0 (List.take (List.length (List.take (90 : Nat) x1)) (List.drop (0 : Nat) (List.take (90 : Nat) x1)))).2.1 (0 : Int) = true → ieq (freeX x0 (List.take (List.length (List.take (90 : Nat) x1)) (List.drop (0 : Nat) (List.take (90 : Nat) x1)))).2.1 (0 : Int) = true) (gd (ieq (freeX x0 (List.take (List.length (List.take (90 : Nat) x1)) (List.drop (0 : Nat) (List.take (90 : Nat) x1)))).2.1 (0 : Int) = true → ieq (freeX x0 (List.take (List.length (List.take (90 : Nat) x1)) (List.drop (0 : Nat) (List.take (90 : Nat) x1)))).2.1 (0 : Int) = true) (gd ((bif ieq (freeX x0 (List.take (List.length (List.take (90 : Nat) x1)) (List.drop (0 : Nat) (List.take (90 : Nat) x1)))).2.1 (0 : Int) then g14_c4 x0 x1 x2 else false) = true → (bif ieq (freeX x0 (List.take (List.length (List.take (90 : Nat) x1)) (List.drop (0 : Nat) (List.take (90 : Nat) x1)))).2.1 (0 : Int) then g14_c4 x0 x1 x2 else false) = true) (some ((g14_c5 x0 x1 x2, ()) : Bool × Unit))))) else gd (List.length (List.take (90 : Nat) x1) ≤ List.length (List.take (90 : Nat) x1)) (gd ((List.length (List.take (90 : Nat) x1) + (1 : Nat)) * (8 : Nat) ≤ (1099511627776 : Nat)) (gd (List.length (List.take (90 : Nat) x1) + (1 : Nat) = List.length (List.take (List.length (List.take (90 : Nat) x1)) (List.take (90 : Nat) x1) ++ wr IntKind.i64 (Int.tmod (wr IntKind.u64 x2) (wr IntKind.u64 (sizeF x0))) :: ([] : List Int))) (gd (List.length (List.take (List.length (List.take (90 : Nat) x1)) (List.take (90 : Nat) x1) ++ wr IntKind.i64 (Int.tmod (wr IntKind.u64 x2) (wr IntKind.u64 (sizeF x0))) :: ([] : List Int)) < (4611686018427387904 : Nat)) (gd ((0 : Nat) + (List.length (List.take (90 : Nat) x1) + (1 : Nat)) ≤ List.length (sortL (List.take (List.length (List.take (90 : Nat) x1)) (List.take (90 : Nat) x1) ++ wr IntKind.i64 (Int.tmod (wr IntKind.u64 x2) (wr IntKind.u64 (sizeF x0))) :: ([] : List Int)))) (gd (small (List.take (List.length (List.take (90 : Nat) x1) + (1 : Nat)) (List.drop (0 : Nat) (sortL (List.take (List.length (List.take (90 : Nat) x1)) (List.take (90 : Nat) x1) ++ wr IntKind.i64 (Int.tmod (wr IntKind.u64 x2) (wr IntKind.u64 (sizeF x0))) :: ([] : List Int)))))) (gd (ieq (freeX x0 (List.take (List.length (List.take (90 : Nat) x1)) (List.drop (0 : Nat) (List.take (90 : Nat) x1)))).2.1 (0 : Int) = true → ieq (freeX x0 (List.take (List.length (List.take (90 : Nat) x1)) (List.drop (0 : Nat) (List.take (90 : Nat) x1)))).2.1 (0 : Int) = true) (gd (ieq (freeX x0 (List.take (List.length (List.take (90 : Nat) x1)) (List.drop (0 : Nat) (List.take (90 : Nat) x1)))).2.1 (0 : Int) = true → ieq (freeX x0 (List.take (List.length (List.take (90 : Nat) x1)) (List.drop (0 : Nat) (List.take (90 : Nat) x1)))).2.1 (0 : Int) = true) (gd (g14_c8 x0 x1 x2 = true → g14_c8 x0 x1 x2 = true ∧ g14_c8 x0 x1 x2 = true ∧ small (freeX x0 (List.take (List.length (List.take (90 : Nat) x1)) (List.drop (0 : Nat) (List.take (90 : Nat) x1)))).1) (gd (g14_c8 x0 x1 x2 = true → g14_c8 x0 x1 x2 = true ∧ g14_c8 x0 x1 x2 = true) (gd (g14_c8 x0 x1 x2 = true → g14_c8 x0 x1 x2 = true) (gd ((bif g14_c8 x0 x1 x2 then g14_c9 x0 x1 x2 else false) = true → (bif g14_c8 x0 x1 x2 then g14_c9 x0 x1 x2 else false) = true) (some ((bif bif g14_c8 x0 x1 x2 then g14_c9 x0 x1 x2 else false then true else false, ()) : Bool × Unit))))))))))))))))))))))))))))))))
noncomputable def g14_sh : List LSh := ([] : List LSh)


end Go.Caps

set_option linter.unusedVariables false
set_option linter.unusedSimpArgs false
namespace Go.Caps
open Go Go.Ab Go.Proofs

/-! ### Sums over lists -/
def sL {α : Type} (f : α → Int) : List α → Int
  | [] => 0
  | x :: l => f x + sL f l
def ind (p : Prop) [Decidable p] : Int := if p then 1 else 0
section
variable {α β : Type}
theorem sL_congr {f g : α → Int} : ∀ {l : List α}, (∀ x ∈ l, f x = g x) → sL f l = sL g l
  | [], _ => rfl
  | x :: l, h => by simp only [sL, h x (List.mem_cons_self ..), sL_congr (l := l) fun y hy => h y (List.mem_cons_of_mem _ hy)]
theorem sL_add {f g : α → Int} : ∀ {l : List α}, sL (fun x => f x + g x) l = sL f l + sL g l
  | [] => rfl
  | x :: l => by simp only [sL, sL_add (l := l)]; omega
theorem sL_mul {f : α → Int} {c : Int} : ∀ {l : List α}, sL (fun x => f x * c) l = sL f l * c
  | [] => by simp [sL]
  | x :: l => by simp only [sL, sL_mul (l := l), Int.add_mul]
theorem sL_const {c : Int} : ∀ {l : List α}, sL (fun _ => c) l = c * l.length
  | [] => by simp [sL]
  | x :: l => by simp only [sL, sL_const (l := l), List.length_cons]; rw [Int.natCast_add, Int.mul_add]; omega
theorem sL_zero : ∀ {l : List α}, sL (fun _ => 0) l = 0
  | [] => rfl
  | x :: l => by simp only [sL, sL_zero (l := l)]; rfl
theorem sL_swap {f : α → β → Int} {m : List β} : ∀ {l : List α}, sL (fun x => sL (fun y => f x y) m) l = sL (fun y => sL (fun x => f x y) l) m
  | [] => by simp only [sL, sL_zero]
  | x :: l => by simp only [sL, sL_add, sL_swap (l := l)]
theorem sL_le {f : α → Int} {c : Int} : ∀ {l : List α}, (∀ x ∈ l, f x ≤ c) → sL f l ≤ c * l.length
  | [], _ => by simp [sL]
  | x :: l, h => by
    have h1 := h x (List.mem_cons_self ..)
    have h2 := sL_le (l := l) fun y hy => h y (List.mem_cons_of_mem _ hy)
    simp only [sL, List.length_cons]
    rw [Int.natCast_add, Int.mul_add]
    omega
theorem sL_nn {f : α → Int} : ∀ {l : List α}, (∀ x ∈ l, 0 ≤ f x) → 0 ≤ sL f l
  | [], _ => by simp [sL]
  | x :: l, h => by
    have h1 := h x (List.mem_cons_self ..)
    have h2 := sL_nn (l := l) fun y hy => h y (List.mem_cons_of_mem _ hy)
    simp only [sL]
    omega
theorem sL_all0 {f : α → Int} : ∀ {l : List α}, (∀ x ∈ l, 0 ≤ f x) → sL f l = 0 → ∀ x ∈ l, f x = 0
  | y :: l, h, h0, x, hx => by
    have h1 := h y (List.mem_cons_self ..)
    have h2 := sL_nn (l := l) fun y hy => h y (List.mem_cons_of_mem _ hy)
    simp only [sL] at h0
    rcases List.mem_cons.1 hx with rfl | hx
    · omega
    · exact sL_all0 (fun y hy => h y (List.mem_cons_of_mem _ hy)) (by omega) x hx
theorem sL_count {p : α → Prop} [DecidablePred p] : ∀ {l : List α}, sL (fun x => ind (p x)) l = ((l.filter fun x => decide (p x)).length : Int)
  | [] => rfl
  | x :: l => by
    show ind (p x) + sL _ l = _
    rw [sL_count (p := p) (l := l)]
    by_cases h : p x
    · rw [show ind (p x) = 1 from if_pos h, List.filter_cons_of_pos (by simpa using h), List.length_cons, Int.natCast_add, Int.add_comm]; rfl
    · rw [show ind (p x) = 0 from if_neg h, List.filter_cons_of_neg (by simpa using h), Int.zero_add]
theorem sL_eq [DecidableEq α] {y : α} : ∀ {l : List α}, l.Nodup → sL (fun x => ind (x = y)) l = ind (y ∈ l)
  | [], _ => by simp [sL, ind]
  | x :: l, h => by
    rw [List.nodup_cons] at h
    simp only [sL, sL_eq (l := l) h.2]
    by_cases e : x = y
    · subst e
      rw [show ind (x = x) = 1 from if_pos rfl, show ind (x ∈ l) = 0 from if_neg h.1, show ind (x ∈ x :: l) = 1 from if_pos (List.mem_cons_self ..)]
      rfl
    · rw [show ind (x = y) = 0 from if_neg e]
      by_cases m : y ∈ l
      · rw [show ind (y ∈ l) = 1 from if_pos m, show ind (y ∈ x :: l) = 1 from if_pos (List.mem_cons_of_mem _ m)]
        rfl
      · rw [show ind (y ∈ l) = 0 from if_neg m, show ind (y ∈ x :: l) = 0 from if_neg fun h => by
          rcases List.mem_cons.1 h with h | h
          · exact e h.symm
          · exact m h]
        rfl
end

/-! ### Classes of parallel hyperplanes -/
def linD (g h : Nat → Int) : Nat → Int
  | 0 => 0
  | n + 1 => linD g h n + g n * h n
def phi (n : Nat) (u x : Int) : Int := linD (dig u) (dig x) n % 3
theorem phi_bd (n : Nat) (u x : Int) : phi n u x = 0 ∨ phi n u x = 1 ∨ phi n u x = 2 := by unfold phi; omega
def uL : Nat → List Int
  | 0 => []
  | n + 1 => uL n ++ (rngL (3 ^ n)).map (fun x => x + p3 n)
theorem linD_congr {g h h' : Nat → Int} : ∀ {n : Nat}, (∀ i, i < n → h i = h' i) → linD g h n = linD g h' n
  | 0, _ => rfl
  | n + 1, e => by simp only [linD, e n (by omega), linD_congr (n := n) fun i hi => e i (by omega)]
theorem lin_diff (g x y : Nat → Int) : ∀ n, ∃ k, linD g (fun i => (x i - y i) % 3) n = linD g x n - linD g y n + 3 * k
  | 0 => ⟨0, rfl⟩
  | n + 1 => by
    obtain ⟨k, hk⟩ := lin_diff g x y n
    refine ⟨k - g n * ((x n - y n) / 3), ?_⟩
    have e := Int.emod_add_mul_ediv (x n - y n) 3
    have e2 : (x n - y n) % 3 = x n - y n - 3 * ((x n - y n) / 3) := by omega
    simp only [linD, hk, e2]
    generalize (x n - y n) / 3 = q
    grind
theorem lin_tri (g x y : Nat → Int) : ∀ n, ∃ k, linD g (fun i => tri (x i) (y i)) n = - linD g x n - linD g y n + 3 * k
  | 0 => ⟨0, rfl⟩
  | n + 1 => by
    obtain ⟨k, hk⟩ := lin_tri g x y n
    refine ⟨k + g n * (2 - (6 - x n - y n) / 3), ?_⟩
    have e2 : tri (x n) (y n) = 6 - x n - y n - 3 * ((6 - x n - y n) / 3) := by unfold tri; omega
    simp only [linD, hk, e2]
    generalize (6 - x n - y n) / 3 = q
    grind
def diff (n : Nat) (x y : Int) : Int := dsum (fun i => (dig x i - dig y i) % 3) n
theorem df_bd (x y : Int) : 0 ≤ (x - y) % 3 ∧ (x - y) % 3 ≤ 2 := by omega
theorem phi_diff {n : Nat} {u x y : Int} : phi n u x = phi n u y ↔ phi n u (diff n x y) = 0 := by
  have e : linD (dig u) (dig (diff n x y)) n = linD (dig u) (fun i => (dig x i - dig y i) % 3) n := linD_congr fun i hi => dsum_dig (fun i => df_bd _ _) n i hi
  obtain ⟨k, hk⟩ := lin_diff (dig u) (dig x) (dig y) n
  unfold phi
  rw [e, hk]
  omega
theorem phi_tri {n : Nat} {u x y : Int} : (phi n u x + phi n u y + phi n u (tsum n x y)) % 3 = 0 := by
  have e : linD (dig u) (dig (tsum n x y)) n = linD (dig u) (fun i => tri (dig x i) (dig y i)) n := linD_congr fun i hi => by
    rw [tsum_d]; exact dsum_dig (fun i => tri_bd _ _) n i hi
  obtain ⟨k, hk⟩ := lin_tri (dig u) (dig x) (dig y) n
  unfold phi
  rw [e, hk]
  omega
theorem diff_rng {n : Nat} {x y : Int} : 0 ≤ diff n x y ∧ diff n x y < p3 n := dsum_rng (fun i => df_bd _ _) n
theorem diff_0 {n : Nat} {x y : Int} (hx : 0 ≤ x ∧ x < p3 n) (hy : 0 ≤ y ∧ y < p3 n) : diff n x y = 0 ↔ x = y := by
  constructor
  · intro h
    rw [← num_dig hx.1 hx.2, ← num_dig hy.1 hy.2]
    refine dsum_congr fun i hi => ?_
    have e : dig (diff n x y) i = (dig x i - dig y i) % 3 := dsum_dig (fun i => df_bd _ _) n i hi
    rw [h] at e
    have h1 := dig_bd x i
    have h2 := dig_bd y i
    have h0 : dig 0 i = 0 := by simp [dig]
    omega
  · rintro rfl
    unfold diff
    have : ∀ m, dsum (fun i => (dig x i - dig x i) % 3) m = 0 := fun m => by
      induction m with
      | zero => rfl
      | succ m ih =>
        show dsum (fun i => (dig x i - dig x i) % 3) m + (dig x m - dig x m) % 3 * p3 m = 0
        rw [ih]; simp
    exact this n

/-- how many classes a pair of cards is together in -/
def N2 (n : Nat) (x y : Int) : Int := sL (fun u => ind (phi n u x = phi n u y)) (uL n)
def clsN (n : Nat) : Int := (p3 n - 1) / 2
theorem N2_tab : ∀ n ∈ ([2, 3, 4] : List Nat), ∀ z ∈ rngL (3 ^ n), (ieq (sL (fun u => ind (phi n u z = 0)) (uL n)) (if z = 0 then clsN n else clsN (n - 1))) = true := by decide +kernel
theorem uL_tab : ∀ n ∈ ([2, 3, 4] : List Nat), ieq ((uL n).length : Int) (clsN n) = true ∧ ∀ u ∈ uL n, (List.range n).any (fun j => ieq (dig u j) 1) = true := by decide +kernel
theorem p3_pow : ∀ n : Nat, p3 n = ((3 ^ n : Nat) : Int)
  | 0 => rfl
  | n + 1 => by rw [p3, p3_pow n, Nat.pow_succ]; rfl
theorem mem_rng {n : Nat} {x : Int} : x ∈ rngL n ↔ 0 ≤ x ∧ x < n := by
  simp only [rngL, List.mem_map, List.mem_range]
  constructor
  · rintro ⟨b, hb, rfl⟩; omega
  · intro h; exact ⟨x.toNat, by omega, by omega⟩
theorem N2_eq {n : Nat} (hn : n ∈ ([2, 3, 4] : List Nat)) {x y : Int} (hx : 0 ≤ x ∧ x < p3 n) (hy : 0 ≤ y ∧ y < p3 n) : N2 n x y = clsN (n - 1) + ind (x = y) * (clsN n - clsN (n - 1)) := by
  have e : N2 n x y = sL (fun u => ind (phi n u (diff n x y) = 0)) (uL n) := sL_congr fun u _ => by
    unfold ind
    by_cases h : phi n u x = phi n u y
    · rw [if_pos h, if_pos (phi_diff.1 h)]
    · rw [if_neg h, if_neg fun g => h (phi_diff.2 g)]
  have hr := diff_rng (n := n) (x := x) (y := y)
  have t := N2_tab n hn (diff n x y) (mem_rng.2 (by rw [← p3_pow]; exact hr))
  rw [ieq_iff] at t
  rw [e, t]
  unfold ind
  by_cases h : x = y
  · rw [if_pos ((diff_0 hx hy).2 h), if_pos h]; omega
  · rw [if_neg fun g => h ((diff_0 hx hy).1 g), if_neg h]; omega

/-! ### Caps -/
structure Cap (n : Nat) (l : List Int) : Prop where
  nd : l.Nodup
  rg : ∀ x ∈ l, 0 ≤ x ∧ x < p3 n
  no : ∀ x ∈ l, ∀ y ∈ l, x ≠ y → tsum n x y ∉ l
theorem Cap.sub {n : Nat} {l m : List Int} (h : Cap n l) (hs : m.Sublist l) : Cap n m :=
  ⟨h.nd.sublist hs, fun x hx => h.rg x (hs.subset hx), fun x hx y hy hne hc => h.no x (hs.subset hx) y (hs.subset hy) hne (hs.subset hc)⟩

/-- the cards of a class that lie on one hyperplane -/
def cl (n : Nat) (u v : Int) (l : List Int) : List Int := l.filter fun x => decide (phi n u x = v)
def nC (n : Nat) (u v : Int) (l : List Int) : Int := ((cl n u v l).length : Int)
theorem by_class {n : Nat} {u : Int} (g : Int → Int) (l : List Int) : sL (fun x => g (phi n u x)) l = nC n u 0 l * g 0 + nC n u 1 l * g 1 + nC n u 2 l * g 2 := by
  have e : sL (fun x => g (phi n u x)) l = sL (fun x => ind (phi n u x = 0) * g 0 + ind (phi n u x = 1) * g 1 + ind (phi n u x = 2) * g 2) l := sL_congr fun x _ => by
    rcases phi_bd n u x with h | h | h <;> rw [h] <;> simp [ind]
  rw [e, sL_add, sL_add, sL_mul, sL_mul, sL_mul, sL_count, sL_count, sL_count]
  rfl
theorem cl_sum {n : Nat} {u : Int} (l : List Int) : nC n u 0 l + nC n u 1 l + nC n u 2 l = l.length := by
  have h := by_class (n := n) (u := u) (fun _ => 1) l
  rw [sL_const] at h
  omega
def Qf (n : Nat) (l : List Int) (u : Int) : Int := sL (fun x => sL (fun y => ind (phi n u x = phi n u y)) l) l
def Rf (n : Nat) (l : List Int) (u : Int) : Int := sL (fun x => sL (fun y => sL (fun z => ind (phi n u x = phi n u y) * ind (phi n u x = phi n u z)) l) l) l
theorem in_cl {n : Nat} {u v : Int} {l : List Int} : sL (fun y => ind (v = phi n u y)) l = nC n u v l := by
  rw [show (fun y => ind (v = phi n u y)) = fun y => ind (phi n u y = v) from funext fun y => by
    unfold ind
    by_cases h : v = phi n u y
    · rw [if_pos h, if_pos h.symm]
    · rw [if_neg h, if_neg fun g => h g.symm]]
  exact sL_count
theorem Q_eq {n : Nat} {l : List Int} {u : Int} : Qf n l u = nC n u 0 l * nC n u 0 l + nC n u 1 l * nC n u 1 l + nC n u 2 l * nC n u 2 l := by
  unfold Qf
  rw [by_class (fun v => sL (fun y => ind (v = phi n u y)) l) l]
  simp only [in_cl]
theorem R_eq {n : Nat} {l : List Int} {u : Int} : Rf n l u = nC n u 0 l * (nC n u 0 l * nC n u 0 l) + nC n u 1 l * (nC n u 1 l * nC n u 1 l) + nC n u 2 l * (nC n u 2 l * nC n u 2 l) := by
  unfold Rf
  rw [by_class (fun v => sL (fun y => sL (fun z => ind (v = phi n u y) * ind (v = phi n u z)) l) l) l]
  have e : ∀ v, sL (fun y => sL (fun z => ind (v = phi n u y) * ind (v = phi n u z)) l) l = nC n u v l * nC n u v l := fun v => by
    have : ∀ y, sL (fun z => ind (v = phi n u y) * ind (v = phi n u z)) l = ind (v = phi n u y) * nC n u v l := fun y => by
      rw [sL_congr (g := fun z => ind (v = phi n u z) * ind (v = phi n u y)) fun z _ => Int.mul_comm _ _, sL_mul, in_cl, Int.mul_comm]
    rw [sL_congr fun y _ => this y, sL_mul, in_cl]
  simp only [e]

theorem sum_ind {l : List Int} (hn : l.Nodup) : sL (fun x => sL (fun y => ind (x = y)) l) l = l.length := by
  rw [sL_swap, sL_congr (g := fun _ => 1) fun y hy => by rw [sL_eq hn]; simp [ind, hy], sL_const]
  omega
/-- pairs -/
theorem sum_Q {n : Nat} (hn : n ∈ ([2, 3, 4] : List Nat)) {l : List Int} (h : Cap n l) : sL (Qf n l) (uL n) = clsN (n - 1) * l.length * l.length + l.length * (clsN n - clsN (n - 1)) := by
  unfold Qf
  rw [sL_swap]
  rw [sL_congr (g := fun x => sL (fun y => clsN (n - 1) + ind (x = y) * (clsN n - clsN (n - 1))) l) fun x hx => by
    rw [sL_swap]
    exact sL_congr fun y hy => N2_eq hn (h.rg x hx) (h.rg y hy)]
  simp only [sL_add, sL_const, sL_mul]
  rw [sum_ind h.nd]
/-- triples -/
theorem sum_R {n : Nat} (hn : n ∈ ([2, 3, 4] : List Nat)) {l : List Int} (h : Cap n l) :
    3 * sL (Rf n l) (uL n) = 4 * (clsN (n - 1) * l.length * l.length * l.length) + 3 * (l.length * (clsN n - clsN (n - 1)) * l.length) + l.length * (clsN n - clsN (n - 1)) - clsN n * l.length * l.length * l.length := by
  have pt (a b c e : Int) (ha : a = 0 ∨ a = 1 ∨ a = 2) (hb : b = 0 ∨ b = 1 ∨ b = 2) (hc : c = 0 ∨ c = 1 ∨ c = 2) (he : e = 0 ∨ e = 1 ∨ e = 2) (hs : (b + c + e) % 3 = 0) :
      ind (a = b) * ind (a = c) * 3 = ind (a = b) + ind (a = c) + ind (b = c) + ind (a = e) + (-1) := by
    rcases ha with rfl | rfl | rfl <;> rcases hb with rfl | rfl | rfl <;> rcases hc with rfl | rfl | rfl <;> rcases he with rfl | rfl | rfl <;> first | (exfalso; revert hs; decide) | decide
  have hK : sL (fun _ => (1 : Int)) (uL n) = clsN n := by
    rw [sL_const]
    have := ieq_iff.1 (uL_tab n hn).1
    omega
  generalize hM : clsN (n - 1) = M
  generalize hD : clsN n - M = D
  have n3 : ∀ x ∈ l, ∀ y ∈ l, ∀ z ∈ l, sL (fun u => ind (phi n u x = phi n u y) * ind (phi n u x = phi n u z)) (uL n) * 3 =
      ind (x = y) * D + ind (x = z) * D + ind (y = z) * D + ind (x = tsum n y z) * D + (4 * M - clsN n) := by
    intro x hx y hy z hz
    rw [← sL_mul, sL_congr fun u _ => pt _ _ _ (phi n u (tsum n y z)) (phi_bd n u x) (phi_bd n u y) (phi_bd n u z) (phi_bd n u _) phi_tri]
    simp only [sL_add]
    have a1 : sL (fun u => ind (phi n u x = phi n u y)) (uL n) = _ := N2_eq hn (h.rg x hx) (h.rg y hy)
    have a2 : sL (fun u => ind (phi n u x = phi n u z)) (uL n) = _ := N2_eq hn (h.rg x hx) (h.rg z hz)
    have a3 : sL (fun u => ind (phi n u y = phi n u z)) (uL n) = _ := N2_eq hn (h.rg y hy) (h.rg z hz)
    have a4 : sL (fun u => ind (phi n u x = phi n u (tsum n y z))) (uL n) = _ := N2_eq hn (h.rg x hx) t_rng
    rw [a1, a2, a3, a4, hM, hD]
    have a5 : sL (fun _ => (-1 : Int)) (uL n) = - clsN n := by
      rw [sL_const]
      have := ieq_iff.1 (uL_tab n hn).1
      omega
    rw [a5]
    omega
  have tE : sL (fun x => sL (fun y => sL (fun z => ind (x = tsum n y z)) l) l) l = l.length := by
    rw [sL_swap, sL_congr (g := fun y => sL (fun z => ind (y = z)) l) fun y hy => by
      rw [sL_swap]
      refine sL_congr fun z hz => ?_
      rw [sL_eq h.nd]
      unfold ind
      by_cases e : y = z
      · subst e
        rw [t_self (h.rg y hy), if_pos hy, if_pos rfl]
      · rw [if_neg (h.no y hy z hz e), if_neg e]]
    exact sum_ind h.nd
  have tot : sL (Rf n l) (uL n) * 3 = sL (fun x => sL (fun y => sL (fun z => ind (x = y) * D + ind (x = z) * D + ind (y = z) * D + ind (x = tsum n y z) * D + (4 * M - clsN n)) l) l) l := by
    unfold Rf
    rw [sL_swap, ← sL_mul]
    refine sL_congr fun x hx => ?_
    rw [sL_swap, ← sL_mul]
    refine sL_congr fun y hy => ?_
    rw [sL_swap, ← sL_mul]
    exact sL_congr fun z hz => n3 x hx y hy z hz
  have q1 : sL (fun x => sL (fun y => sL (fun z => ind (x = y) * D) l) l) l = l.length * l.length * D := by
    simp only [sL_const, sL_mul]
    rw [sum_ind h.nd, Int.mul_assoc, Int.mul_comm D, ← Int.mul_assoc]
  have q2 : sL (fun x => sL (fun y => sL (fun z => ind (x = z) * D) l) l) l = l.length * l.length * D := by
    simp only [sL_mul, sL_const]
    rw [sum_ind h.nd]
  have q3 : sL (fun x => sL (fun y => sL (fun z => ind (y = z) * D) l) l) l = l.length * l.length * D := by
    simp only [sL_mul]
    rw [sum_ind h.nd, sL_const]
  have q4 : sL (fun x => sL (fun y => sL (fun z => ind (x = tsum n y z) * D) l) l) l = l.length * D := by
    simp only [sL_mul]
    rw [tE]
  have q5 : sL (fun x => sL (fun y => sL (fun z => 4 * M - clsN n) l) l) l = (4 * M - clsN n) * l.length * l.length * l.length := by
    simp only [sL_const]
  rw [Int.mul_comm, tot]
  simp only [sL_add, q1, q2, q3, q4, q5]
  generalize (l.length : Int) = k
  generalize clsN n = K
  grind
end Go.Caps

set_option linter.unusedVariables false
set_option linter.unusedSimpArgs false
namespace Go.Caps
open Go Go.Ab Go.Proofs

/-! ### Leaving out a digit -/
def dlt (j m : Nat) (x : Int) : Int := dsum (fun i => dig x (if i < j then i else i + 1)) m
theorem dlt_dig {j m i : Nat} (x : Int) (hi : i < m) : dig (dlt j m x) i = dig x (if i < j then i else i + 1) := dsum_dig (fun i => dig_bd x _) m i hi
theorem dlt_rng {j m : Nat} {x : Int} : 0 ≤ dlt j m x ∧ dlt j m x < p3 m := dsum_rng (fun i => dig_bd x _) m
theorem dlt_t {j m : Nat} (hj : j ≤ m) (x y : Int) : tsum m (dlt j m x) (dlt j m y) = dlt j m (tsum (m + 1) x y) := by
  rw [tsum_d]
  unfold dlt
  refine dsum_congr fun i hi => ?_
  have h1 := dlt_dig (j := j) x hi
  have h2 := dlt_dig (j := j) y hi
  unfold dlt at h1 h2
  rw [h1, h2, tsum_d, dsum_dig (fun i => tri_bd _ _) (m + 1) _ (by split <;> omega)]
theorem lin_one {g h h' : Nat → Int} {j : Nat} : ∀ {n : Nat}, j < n → (∀ i, i < n → i ≠ j → h i = h' i) → linD g h n - linD g h' n = g j * (h j - h' j)
  | n + 1, hj, e => by
    simp only [linD]
    by_cases c : j = n
    · subst c
      have : linD g h j = linD g h' j := linD_congr fun i hi => e i (by omega) (by omega)
      rw [this, Int.mul_sub]; omega
    · have ih := lin_one (g := g) (h := h) (h' := h') (n := n) (j := j) (by omega) fun i hi hne => e i (by omega) hne
      rw [e n (by omega) (by omega)]
      omega
theorem dlt_inj {j m : Nat} (hj : j ≤ m) {u x y : Int} (hu : dig u j = 1) (hx : 0 ≤ x ∧ x < p3 (m + 1)) (hy : 0 ≤ y ∧ y < p3 (m + 1)) (hp : phi (m + 1) u x = phi (m + 1) u y) (hd : dlt j m x = dlt j m y) : x = y := by
  have e : ∀ i, i < m + 1 → i ≠ j → dig x i = dig y i := fun i hi hne => by
    rcases Nat.lt_or_ge i j with h | h
    · have h1 := dlt_dig (j := j) (m := m) x (i := i) (by omega)
      have h2 := dlt_dig (j := j) (m := m) y (i := i) (by omega)
      rw [if_pos h] at h1 h2
      rw [← h1, ← h2, hd]
    · have h1 := dlt_dig (j := j) (m := m) x (i := i - 1) (by omega)
      have h2 := dlt_dig (j := j) (m := m) y (i := i - 1) (by omega)
      rw [if_neg (by omega), show i - 1 + 1 = i by omega] at h1 h2
      rw [← h1, ← h2, hd]
  have hl := lin_one (g := dig u) (h := dig x) (h' := dig y) (n := m + 1) (j := j) (by omega) e
  rw [hu] at hl
  have h1 := dig_bd x j
  have h2 := dig_bd y j
  unfold phi at hp
  have ej : dig x j = dig y j := by omega
  rw [← num_dig hx.1 hx.2, ← num_dig hy.1 hy.2]
  refine dsum_congr fun i hi => ?_
  by_cases c : i = j
  · subst c; exact ej
  · exact e i hi c

theorem cl_cap {m j : Nat} (hj : j ≤ m) {u v : Int} (hu : dig u j = 1) {l : List Int} (h : Cap (m + 1) l) : Cap m ((cl (m + 1) u v l).map (dlt j m)) := by
  have mem : ∀ x, x ∈ cl (m + 1) u v l ↔ x ∈ l ∧ phi (m + 1) u x = v := fun x => by simp [cl, List.mem_filter]
  have hs : Cap (m + 1) (cl (m + 1) u v l) := h.sub (List.filter_sublist ..)
  refine ⟨?_, fun x hx => ?_, fun X hX Y hY hne hc => ?_⟩
  · unfold List.Nodup
    rw [List.pairwise_map]
    refine List.Pairwise.imp_of_mem (fun {x y} hx hy hxy he => hxy ?_) hs.nd
    exact dlt_inj hj hu (hs.rg x hx) (hs.rg y hy) (((mem x).1 hx).2.trans ((mem y).1 hy).2.symm) he
  · obtain ⟨y, _, rfl⟩ := List.mem_map.1 hx
    exact dlt_rng
  · obtain ⟨x, hx, rfl⟩ := List.mem_map.1 hX
    obtain ⟨y, hy, rfl⟩ := List.mem_map.1 hY
    obtain ⟨z, hz, ez⟩ := List.mem_map.1 hc
    rw [dlt_t hj] at ez
    have hxy : x ≠ y := fun e => hne (by rw [e])
    have ht := phi_tri (n := m + 1) (u := u) (x := x) (y := y)
    rw [((mem x).1 hx).2, ((mem y).1 hy).2] at ht
    have b1 := phi_bd (m + 1) u (tsum (m + 1) x y)
    have b2 := phi_bd (m + 1) u x
    rw [((mem x).1 hx).2] at b2
    have hv : phi (m + 1) u (tsum (m + 1) x y) = v := by omega
    have hzt : z = tsum (m + 1) x y := dlt_inj hj hu (hs.rg z hz) t_rng (((mem z).1 hz).2.trans hv.symm) ez
    exact hs.no x hx y hy hxy (hzt ▸ hz)

/-! ### The numbers -/
theorem cap1 {l : List Int} (h : Cap 1 l) : l.length ≤ 2 := by
  rcases Nat.lt_or_ge 2 l.length with hlt | hge
  · exfalso
    have h3 : Cap 1 (l.take 3) := h.sub (List.take_sublist ..)
    have hl : (l.take 3).length = 3 := by simp; omega
    match l.take 3, hl, h3 with
    | [x, y, z], _, h3 =>
      have rx := h3.rg x (by simp)
      have ry := h3.rg y (by simp)
      have rz := h3.rg z (by simp)
      simp only [show p3 1 = 3 from rfl] at rx ry rz
      have nd := h3.nd
      simp only [List.nodup_cons, List.mem_cons, List.not_mem_nil, or_false, not_or, not_false_eq_true, List.nodup_nil, and_true] at nd
      obtain ⟨⟨n1, n2⟩, n3⟩ := nd
      refine h3.no x (by simp) y (by simp) n1 ?_
      have : tsum 1 x y = z := by
        simp only [tsum, p3]
        omega
      rw [this]; simp
  · exact hge
theorem cls_le {m : Nat} (hm : m + 1 ∈ ([2, 3, 4] : List Nat)) {b : Nat} (ih : ∀ l, Cap m l → l.length ≤ b) {l : List Int} (h : Cap (m + 1) l) {u : Int} (hu : u ∈ uL (m + 1)) (v : Int) : 0 ≤ nC (m + 1) u v l ∧ nC (m + 1) u v l ≤ b := by
  obtain ⟨j, hj, hd⟩ := List.any_eq_true.1 ((uL_tab (m + 1) hm).2 u hu)
  rw [List.mem_range] at hj
  have := ih _ (cl_cap (v := v) (show j ≤ m by omega) (ieq_iff.1 hd) h)
  rw [List.length_map] at this
  unfold nC
  omega
theorem cls1 : clsN 1 = 1 ∧ clsN 2 = 4 ∧ clsN 3 = 13 ∧ clsN 4 = 40 := by decide
theorem cap2 {l : List Int} (h : Cap 2 l) : l.length ≤ 4 := by
  rcases Nat.lt_or_ge 4 l.length with hlt | hge
  · exfalso
    have h5 : Cap 2 (l.take 5) := h.sub (List.take_sublist ..)
    have hl : ((l.take 5).length : Int) = 5 := by simp; omega
    have hq := sum_Q (n := 2) (by simp) h5
    have hb := sL_le (f := Qf 2 (l.take 5)) (c := 9) (l := uL 2) fun u hu => by
      rw [Q_eq]
      have a := cls_le (m := 1) (by simp) (fun l => cap1) h5 hu
      have s := cl_sum (n := 2) (u := u) (l.take 5)
      have a0 := a 0
      have a1 := a 1
      have a2 := a 2
      generalize nC 2 u 0 (l.take 5) = i at *
      generalize nC 2 u 1 (l.take 5) = j at *
      generalize nC 2 u 2 (l.take 5) = k at *
      have : i = 0 ∨ i = 1 ∨ i = 2 := by omega
      have : j = 0 ∨ j = 1 ∨ j = 2 := by omega
      have : k = 0 ∨ k = 1 ∨ k = 2 := by omega
      rcases ‹i = 0 ∨ i = 1 ∨ i = 2› with rfl | rfl | rfl <;> rcases ‹j = 0 ∨ j = 1 ∨ j = 2› with rfl | rfl | rfl <;> rcases ‹k = 0 ∨ k = 1 ∨ k = 2› with rfl | rfl | rfl <;> omega
    have hu := ieq_iff.1 (uL_tab 2 (by simp)).1
    rw [hl] at hq
    rw [hu] at hb
    simp only [Nat.reduceSub, cls1.1, cls1.2.1] at hq hb
    omega
  · exact hge
theorem tab10 : ∀ i ∈ List.range 5, ∀ j ∈ List.range 5, ∀ k ∈ List.range 5, i + j + k = 10 → i * i + j * j + k * k ≤ 36 := by decide
theorem cap3 {l : List Int} (h : Cap 3 l) : l.length ≤ 9 := by
  rcases Nat.lt_or_ge 9 l.length with hlt | hge
  · exfalso
    have h5 : Cap 3 (l.take 10) := h.sub (List.take_sublist ..)
    have hl : ((l.take 10).length : Int) = 10 := by simp; omega
    have hq := sum_Q (n := 3) (by simp) h5
    have hb := sL_le (f := Qf 3 (l.take 10)) (c := 36) (l := uL 3) fun u hu => by
      rw [Q_eq]
      have a := cls_le (m := 2) (by simp) (fun l => cap2) h5 hu
      have s := cl_sum (n := 3) (u := u) (l.take 10)
      have a0 := a 0
      have a1 := a 1
      have a2 := a 2
      rw [hl] at s
      generalize nC 3 u 0 (l.take 10) = i at *
      generalize nC 3 u 1 (l.take 10) = j at *
      generalize nC 3 u 2 (l.take 10) = k at *
      obtain ⟨i, rfl⟩ := Int.eq_ofNat_of_zero_le a0.1
      obtain ⟨j, rfl⟩ := Int.eq_ofNat_of_zero_le a1.1
      obtain ⟨k, rfl⟩ := Int.eq_ofNat_of_zero_le a2.1
      have t := tab10 i (List.mem_range.2 (by omega)) j (List.mem_range.2 (by omega)) k (List.mem_range.2 (by omega)) (by omega)
      have := Int.ofNat_le.2 t
      simpa using this
    have hu := ieq_iff.1 (uL_tab 3 (by simp)).1
    rw [hl] at hq
    rw [hu] at hb
    simp only [Nat.reduceSub, cls1.2.1, cls1.2.2.1] at hq hb
    omega
  · exact hge
def f21 (i j k : Nat) : Int := ((i * (i * i) + j * (j * j) + k * (k * k) : Nat) : Int) - 19 * ((i * i + j * j + k * k : Nat) : Int) + 1764
theorem tab21 : ∀ i ∈ List.range 10, ∀ j ∈ List.range 10, ∀ k ∈ List.range 10, i + j + k = 21 → 0 ≤ f21 i j k ∧ (f21 i j k = 0 → (i * i + j * j + k * k) % 24 = 3) := by decide +kernel
theorem cap4 {l : List Int} (h : Cap 4 l) : l.length ≤ 20 := by
  rcases Nat.lt_or_ge 20 l.length with hlt | hge
  · exfalso
    have h5 : Cap 4 (l.take 21) := h.sub (List.take_sublist ..)
    have hl : ((l.take 21).length : Int) = 21 := by simp; omega
    have hq := sum_Q (n := 4) (by simp) h5
    have hr := sum_R (n := 4) (by simp) h5
    have key : ∀ u ∈ uL 4, 0 ≤ Rf 4 (l.take 21) u + Qf 4 (l.take 21) u * (-19) + 1764 ∧ (Rf 4 (l.take 21) u + Qf 4 (l.take 21) u * (-19) + 1764 = 0 → Qf 4 (l.take 21) u = (Qf 4 (l.take 21) u / 24) * 24 + 3) := fun u hu => by
      rw [Q_eq, R_eq]
      have a := cls_le (m := 3) (by simp) (fun l => cap3) h5 hu
      have s := cl_sum (n := 4) (u := u) (l.take 21)
      have a0 := a 0
      have a1 := a 1
      have a2 := a 2
      rw [hl] at s
      generalize nC 4 u 0 (l.take 21) = i at *
      generalize nC 4 u 1 (l.take 21) = j at *
      generalize nC 4 u 2 (l.take 21) = k at *
      obtain ⟨i, rfl⟩ := Int.eq_ofNat_of_zero_le a0.1
      obtain ⟨j, rfl⟩ := Int.eq_ofNat_of_zero_le a1.1
      obtain ⟨k, rfl⟩ := Int.eq_ofNat_of_zero_le a2.1
      have t := tab21 i (List.mem_range.2 (by omega)) j (List.mem_range.2 (by omega)) k (List.mem_range.2 (by omega)) (by omega)
      have e1 : ((i : Int) * (i * i) + j * (j * j) + k * (k * k)) = ((i * (i * i) + j * (j * j) + k * (k * k) : Nat) : Int) := by simp
      have e2 : ((i : Int) * i + j * j + k * k) = ((i * i + j * j + k * k : Nat) : Int) := by simp
      rw [e1, e2]
      unfold f21 at t
      generalize i * (i * i) + j * (j * j) + k * (k * k) = R at *
      generalize i * i + j * j + k * k = Q at *
      refine ⟨by omega, fun h0 => ?_⟩
      have := t.2 (by omega)
      omega
    have hu := ieq_iff.1 (uL_tab 4 (by simp)).1
    rw [cls1.2.2.2] at hu
    rw [hl] at hq hr
    simp only [Nat.reduceSub, cls1.2.2.1, cls1.2.2.2] at hq hr
    have s0 : sL (fun u => Rf 4 (l.take 21) u + Qf 4 (l.take 21) u * (-19) + 1764) (uL 4) = 0 := by
      simp only [sL_add, sL_mul, sL_const]
      rw [show sL (fun x => Rf 4 (l.take 21) x) (uL 4) = sL (Rf 4 (l.take 21)) (uL 4) from rfl, show sL (fun x => Qf 4 (l.take 21) x) (uL 4) = sL (Qf 4 (l.take 21)) (uL 4) from rfl, hq, hu]
      omega
    have z := sL_all0 (fun u hu => (key u hu).1) s0
    have e : sL (Qf 4 (l.take 21)) (uL 4) = sL (fun u => Qf 4 (l.take 21) u / 24 * 24 + 3) (uL 4) := sL_congr fun u hu => (key u hu).2 (z u hu)
    rw [sL_add, sL_mul, sL_const, hu, hq] at e
    omega
  · exact hge
end Go.Caps

set_option linter.unusedVariables false
set_option linter.unusedSimpArgs false
namespace Go.Caps
open Go Go.Ab Go.Proofs

theorem goal19s : con19s.goal Try.prog (spS [con54s] []) g19s_sh [] lm30 := by
  have e : (∀ (l : List Int), g19s l = some (l.take 90, ())) = con19s.goal Try.prog (spS [con54s] []) g19s_sh [] lm30 := by kernel_rfl
  rw [← e]
  intro l
  have e90 : l.take (imin (l.length : Int) 90).toNat = l.take 90 := by
    unfold imin
    by_cases h : (90 : Int) < l.length
    · rw [if_pos h]; rfl
    · rw [if_neg h, List.take_of_length_le (by omega), List.take_of_length_le (by omega)]
  have hb : 0 ≤ imin (l.length : Int) 90 ∧ imin (l.length : Int) 90 ≤ l.length := by
    unfold imin
    split <;> omega
  have hl : (l.take 90).length ≤ 90 := by rw [List.length_take]; omega
  unfold g19s
  rw [e90, gd_pos hb, gd_pos (by omega), gd_pos rfl]
set_option maxRecDepth 100000 in
theorem ok19s : con19s.Ok Try.prog := SCon.of_goal mixed okN (okS ok54s okS0) con19s goal19s

/-! ### sets and caps -/
theorem ups_zero {g : Int → Int → Bool} : ∀ {l : List Int}, upS g l = 0 ↔ l.Pairwise fun x y => g x y = false
  | [] => by simp [upS]
  | x :: r => by
    simp only [upS, List.pairwise_cons, Nat.add_eq_zero_iff, ups_zero (l := r), List.countP_eq_zero, Bool.not_eq_true]
theorem sets_up {d : Int} {l : List Int} : setsF d l = (upS (fun x y => decide (y < thr d x y) && l.contains (thr d x y)) l : Nat) := by
  have h := setsN_up (d := d) (l := l) l.length (Nat.le_refl _)
  rw [List.drop_length] at h
  simp only [upS, Nat.add_zero] at h
  unfold setsF
  rw [h]
def noSet (d : Int) (l : List Int) : Prop := ∀ x ∈ l, ∀ y ∈ l, x ≠ y → thr d x y ∉ l
theorem sets_no {d : Int} {l : List Int} (h : okH d l = true) : setsF d l = 0 ↔ noSet d l := by
  obtain ⟨hd, hin, hr⟩ := okH_parts h
  have hs := size_p3 hd
  have rg : ∀ x ∈ l, 0 ≤ x ∧ x < p3 d.toNat := fun x hx => by rw [← hs]; exact inC_iff.1 (hin x hx)
  have hp := ris_pw hr
  rw [sets_up, show ((upS (fun x y => decide (y < thr d x y) && l.contains (thr d x y)) l : Nat) : Int) = 0 ↔ upS (fun x y => decide (y < thr d x y) && l.contains (thr d x y)) l = 0 by omega, ups_zero]
  constructor
  · intro hz
    have key : ∀ x ∈ l, ∀ y ∈ l, x < y → ¬ (y < thr d x y ∧ thr d x y ∈ l) := by
      have : l.Pairwise fun x y => x < y ∧ (decide (y < thr d x y) && l.contains (thr d x y)) = false := hp.and hz
      intro x hx y hy hxy ⟨h1, h2⟩
      have hxy' : (decide (y < thr d x y) && l.contains (thr d x y)) = false := by
        rcases List.pairwise_iff_getElem.1 this with h
        obtain ⟨i, hi, rfl⟩ := List.getElem_of_mem hx
        obtain ⟨j, hj, rfl⟩ := List.getElem_of_mem hy
        have hij : i < j := by
          rcases Nat.lt_trichotomy i j with q | q | q
          · exact q
          · subst q; omega
          · have := (h j i hj hi q).1; omega
        exact (h i j hi hj hij).2
      rw [decide_eq_true h1, List.contains_iff_mem.2 h2] at hxy'
      cases hxy'
    intro x hx y hy hne hc
    -- the three cards in order
    have rx := rg x hx
    have ry := rg y hy
    have t1 : thr d x (thr d x y) = y := t_inv ry
    have t2 : thr d y (thr d x y) = x := by rw [thr_comm (a := x)]; exact t_inv rx
    have n1 : thr d x y ≠ x ∧ thr d x y ≠ y := t_ne rx ry hne
    generalize thr d x y = z at *
    have e1 : thr d y x = z := by rw [← t2]; exact t_inv (rg z hc)
    have e2 : thr d x y = z := by rw [thr_comm]; exact e1
    have e3 : thr d z x = y := by rw [thr_comm]; exact t1
    have e4 : thr d z y = x := by rw [thr_comm]; exact t2
    rcases Int.lt_trichotomy x y with h1 | h1 | h1
    · rcases Int.lt_trichotomy y z with h2 | h2 | h2
      · exact key x hx y hy h1 ⟨by rw [e2]; exact h2, by rw [e2]; exact hc⟩
      · exact n1.2 h2.symm
      · rcases Int.lt_trichotomy x z with h3 | h3 | h3
        · exact key x hx z hc h3 ⟨by rw [t1]; exact h2, by rw [t1]; exact hy⟩
        · exact n1.1 h3.symm
        · exact key z hc x hx h3 ⟨by rw [e3]; exact h1, by rw [e3]; exact hy⟩
    · exact hne h1
    · rcases Int.lt_trichotomy x z with h2 | h2 | h2
      · exact key y hy x hx h1 ⟨by rw [e1]; exact h2, by rw [e1]; exact hc⟩
      · exact n1.1 h2.symm
      · rcases Int.lt_trichotomy y z with h3 | h3 | h3
        · exact key y hy z hc h3 ⟨by rw [t2]; exact h2, by rw [t2]; exact hx⟩
        · exact n1.2 h3.symm
        · exact key z hc y hy h3 ⟨by rw [e4]; exact h1, by rw [e4]; exact hx⟩
  · intro hn
    refine List.Pairwise.imp_of_mem (fun {x y} hx hy hxy => ?_) hp
    have := hn x hx y hy (by omega)
    rw [Bool.and_eq_false_iff]
    right
    rw [← Bool.not_eq_true, List.contains_iff_mem]
    exact this
theorem cap_of {d : Int} {l : List Int} (h : okH d l = true) (h0 : setsF d l = 0) : Cap d.toNat l := by
  obtain ⟨hd, hin, hr⟩ := okH_parts h
  refine ⟨(ris_pw hr).imp fun h => by omega, fun x hx => by rw [← size_p3 hd]; exact inC_iff.1 (hin x hx), (sets_no h).1 h0⟩

/-! ### free cards -/
theorem bad_no {d x : Int} {l : List Int} (hd : isD d = true) (hl : ∀ y ∈ l, inC (sizeF d) y = true) (hnd : l.Nodup) : badN d l l.length x = false ↔ x ∉ l ∧ ∀ a ∈ l, ∀ b ∈ l, a ≠ b → thr d a b ≠ x := by
  have hb := bad_iff (d := d) (x := x) (l := l) l.length
  simp only [Bool.not_eq_true'] at hb
  rw [hb]
  constructor
  · intro h
    refine ⟨fun hx => ?_, fun a ha b hb' hne => ?_⟩
    · obtain ⟨i, hi, rfl⟩ := List.getElem_of_mem hx
      have := h i (Nat.zero_le _) hi
      rw [gd_at hi] at this
      simp at this
    · obtain ⟨i, hi, rfl⟩ := List.getElem_of_mem ha
      obtain ⟨j, hj, rfl⟩ := List.getElem_of_mem hb'
      have go : ∀ i j (hi : i < l.length) (hj : j < l.length), j < i → thr d l[i] l[j] ≠ x := fun i j hi hj hji he => by
        have := h i (Nat.zero_le _) hi
        rw [gd_at hi, Bool.or_eq_false_iff] at this
        have h2 := List.any_eq_false.1 this.2 l[j] (List.mem_take_iff_getElem.2 ⟨j, by omega, rfl⟩)
        rw [decide_eq_true he] at h2
        exact h2 rfl
      rcases Nat.lt_trichotomy i j with q | q | q
      · rw [thr_comm]; exact go j i hj hi q
      · subst q; exact absurd rfl hne
      · exact go i j hi hj q
  · rintro ⟨h1, h2⟩ i _ hi
    rw [gd_at hi, Bool.or_eq_false_iff]
    refine ⟨decide_eq_false fun e => h1 (e ▸ List.getElem_mem hi), List.any_eq_false.2 fun b hb he => ?_⟩
    obtain ⟨j, hj, rfl⟩ := List.mem_take_iff_getElem.1 hb
    have hj' : j < l.length := by omega
    refine h2 l[i] (List.getElem_mem hi) l[j] (List.getElem_mem hj') (fun e => ?_) (of_decide_eq_true he)
    have := (List.getElem_inj hnd).1 e
    omega
theorem free_iff {d x : Int} {l : List Int} (h : okH d l = true) (hx : inC (sizeF d) x = true) : (freeF d l).contains x = true ↔ x ∉ l ∧ ∀ a ∈ l, ∀ b ∈ l, a ≠ b → thr d a b ≠ x := by
  obtain ⟨hd, hin, hr⟩ := okH_parts h
  have e : (freeF d l).contains x = mayD d l x := rfl
  have hx' := inC_iff.1 hx
  rw [e, may_free, decide_eq_true hx'.1, decide_eq_true hx'.2, Bool.true_and, Bool.true_and, Bool.not_eq_true', bad_no hd hin ((ris_pw hr).imp fun h => by omega)]
/-- a card more -/
theorem more_cap {d x : Int} {l : List Int} (h : okH d l = true) (h0 : setsF d l = 0) (hx : inC (sizeF d) x = true) (hn : x ∉ l) :
    okH d (sortL (l ++ [x])) = true ∧ (setsF d (sortL (l ++ [x])) = 0 ↔ (freeF d l).contains x = true) := by
  obtain ⟨hd, hin, hr⟩ := okH_parts h
  have hs := size_p3 hd
  have rg : ∀ y ∈ l, 0 ≤ y ∧ y < p3 d.toNat := fun y hy => by rw [← hs]; exact inC_iff.1 (hin y hy)
  have rx : 0 ≤ x ∧ x < p3 d.toNat := by rw [← hs]; exact inC_iff.1 hx
  have hnd : (l ++ [x]).Nodup := by
    rw [List.nodup_append]
    exact ⟨(ris_pw hr).imp fun h => by omega, by simp, fun a ha b hb => by simp only [List.mem_singleton] at hb; subst hb; exact fun e => hn (e ▸ ha)⟩
  have hok : okH d (sortL (l ++ [x])) = true := by
    simp only [okH, Bool.and_eq_true, sort_ris hnd, hd, true_and, and_true, List.all_eq_true]
    intro y hy
    rcases List.mem_append.1 (mem_sort.1 hy) with hy | hy
    · exact hin y hy
    · rw [List.mem_singleton.1 hy]; exact hx
  refine ⟨hok, ?_⟩
  rw [sets_no hok, free_iff h hx]
  have hz := (sets_no h).1 h0
  have mem : ∀ y, y ∈ sortL (l ++ [x]) ↔ y ∈ l ∨ y = x := fun y => by rw [mem_sort, List.mem_append, List.mem_singleton]
  constructor
  · intro hN
    exact ⟨hn, fun a ha b hb hne he => hN a ((mem a).2 (.inl ha)) b ((mem b).2 (.inl hb)) hne ((mem _).2 (.inr he))⟩
  · rintro ⟨_, hf⟩ a ha b hb hne hc
    -- the third of a card and the new one
    have nx : ∀ a ∈ l, thr d a x ∉ l ∧ thr d a x ≠ x := fun a ha => by
      have hax : a ≠ x := fun e => hn (e ▸ ha)
      have t1 : thr d a (thr d a x) = x := t_inv rx
      have t3 : thr d a x ≠ a ∧ thr d a x ≠ x := t_ne (rg a ha) rx hax
      exact ⟨fun hc => hf a ha _ hc (fun e => t3.1 e.symm) t1, t3.2⟩
    rcases (mem a).1 ha with ga | ga <;> rcases (mem b).1 hb with gb | gb
    · rcases (mem _).1 hc with hc | hc
      · exact hz a ga b gb hne hc
      · exact hf a ga b gb hne hc
    · subst gb
      rcases (mem _).1 hc with hc | hc
      · exact (nx a ga).1 hc
      · exact (nx a ga).2 hc
    · subst ga
      rw [thr_comm] at hc
      rcases (mem _).1 hc with hc | hc
      · exact (nx b gb).1 hc
      · exact (nx b gb).2 hc
    · exact hne (ga.trans gb.symm)

theorem grt1 : grtX 1 = ([0, 1], 0, ()) := by decide +kernel
theorem grt2 : grtX 2 = ([0, 1, 3, 4], 0, ()) := by decide +kernel
theorem grt3 : grtX 3 = ([0, 1, 3, 4, 9, 10, 14, 17, 23], 0, ()) := by decide +kernel
theorem gcap : capX 1 [0, 1] = (true, 0, ()) ∧ capX 2 [0, 1, 3, 4] = (true, 0, ()) ∧ capX 3 [0, 1, 3, 4, 9, 10, 14, 17, 23] = (true, 0, ()) := by decide +kernel

theorem goal14 : con14.goal Try.prog (spS [con19s, sortCon 52 true] [con20, con22, con23, con29, con30, con45, con53]) g14_sh [] lm30 := by
  have e : (∀ (d : Int) (l : List Int) (x : Int), small l → g14 d l x = some (true, ())) = con14.goal Try.prog (spS [con19s, sortCon 52 true] [con20, con22, con23, con29, con30, con45, con53]) g14_sh [] lm30 := by kernel_rfl
  rw [← e]
  intro d l x hsm
  have ir : ∀ x : Int, ieq x x = true := fun x => ieq_iff.2 rfl
  have h90 : small (l.take 90) := by unfold small; rw [List.length_take]; omega
  have eT : List.take (List.length (List.take 90 l)) (List.drop 0 (List.take 90 l)) = l.take 90 := by rw [List.drop_zero, List.take_of_length_le (Nat.le_refl _)]
  by_cases h : okH d l = true
  · obtain ⟨hd, hin, hr⟩ := okH_parts h
    have h4 := isD_iff.1 hd
    have hlen := okH_len h
    have e90 : l.take 90 = l := List.take_of_length_le (by omega)
    have eT2 : List.take l.length (List.drop 0 l) = l := by rw [List.drop_zero, List.take_of_length_le (Nat.le_refl _)]
    have hs81 : sizeF d ≤ 81 ∧ 3 ≤ sizeF d := by
      rcases isD_cases hd with rfl | rfl | rfl | rfl <;> decide
    have hu : wr .u64 (sizeF d) = sizeF d := by show IntKind.u64.wrap _ = _; rw [IntKind.wrap_u64]; omega
    have hnz : sizeF d ≠ 0 := by omega
    have hqr : 0 ≤ wr .i64 (Int.tmod (wr .u64 x) (sizeF d)) ∧ wr .i64 (Int.tmod (wr .u64 x) (sizeF d)) < sizeF d := by
      have hw : 0 ≤ wr .u64 x := by
        show 0 ≤ IntKind.u64.wrap x
        rw [IntKind.wrap_u64]; exact Int.emod_nonneg _ (by omega)
      rw [Int.tmod_eq_emod_of_nonneg hw]
      have m1 : 0 ≤ wr .u64 x % sizeF d := Int.emod_nonneg _ hnz
      have m2 : wr .u64 x % sizeF d < sizeF d := Int.emod_lt_of_pos _ (by omega)
      rw [wr_id (by omega)]
      omega
    have hC : capX d l = (ieq (setsF d l) 0, 0, ()) := by rw [capX, if_pos h]
    have hF : freeX d l = if setsF d l ≤ 0 then (freeF d l, 0, ()) else ([], 5, ()) := by rw [freeX, if_pos h]
    have hnn : 0 ≤ setsF d l := by unfold setsF; omega
    have hsF : small (freeF d l) := by have := free_len (d := d) (l := l); unfold small; omega
    -- the greatest
    have hG : ∃ (G : List Int) (f : Int), grtX d = (G, f, ()) ∧ small G ∧ beqB (ieq f 0) (ile d 3) = true ∧ (ieq f 0 = true → ieq (G.length : Int) (g14_c0 d) = true ∧ capX d G = (true, 0, ())) ∧ (f = 0 ∨ f = 2) := by
      rcases isD_cases hd with rfl | rfl | rfl | rfl
      · exact ⟨_, _, grt1, by simp [small], by decide, fun _ => ⟨by decide, gcap.1⟩, .inl rfl⟩
      · exact ⟨_, _, grt2, by simp [small], by decide, fun _ => ⟨by decide, gcap.2.1⟩, .inl rfl⟩
      · exact ⟨_, _, grt3, by simp [small], by decide, fun _ => ⟨by decide, gcap.2.2⟩, .inl rfl⟩
      · exact ⟨[], 2, grt_no (by omega), by simp [small], by decide, fun h => absurd h (by decide), .inr rfl⟩
    obtain ⟨G, f, hG, hsG, hG1, hG2, hf⟩ := hG
    have hmost : ieq (setsF d l) 0 = true → ilt (g14_c0 d) (l.length : Int) = false := fun h0 => by
      have hc := cap_of h (ieq_iff.1 h0)
      rw [ilt_false]
      rcases isD_cases hd with rfl | rfl | rfl | rfl
      · have := cap1 hc; show (l.length : Int) ≤ 2; omega
      · have := cap2 hc; show (l.length : Int) ≤ 4; omega
      · have := cap3 hc; show (l.length : Int) ≤ 9; omega
      · have := cap4 hc; show (l.length : Int) ≤ 20; omega
    have c3 : g14_c3 d l = false := by
      unfold g14_c3
      simp only [e90, eT2, hG, hG1, hC]
      cases hz : ieq (setsF d l) 0 with
      | true =>
        rw [hmost hz]
        cases hff : ieq f 0 with
        | true => rw [(hG2 hff).1]; rfl
        | false => rfl
      | false =>
        cases hff : ieq f 0 with
        | true => rw [(hG2 hff).1]; rfl
        | false => rfl
    generalize hq : wr .i64 (Int.tmod (wr .u64 x) (sizeF d)) = m at hqr
    have hm : inC (sizeF d) m = true := inC_iff.2 hqr
    have t0 : (!!beqB (ieq f 0) (ile d 3)) = true := by rw [hG1]; rfl
    unfold g14
    simp only [e90, eT2, hC, h, hG, hG1, c3, hu, hq, ir, Bool.not_true, Bool.not_false, cond_true, cond_false]
    by_cases hz : setsF d l = 0
    · have hF0 : freeX d l = (freeF d l, 0, ()) := by rw [hF, if_pos (by omega)]
      have hz' : ieq (setsF d l) 0 = true := ieq_iff.2 hz
      have htail : (bif l.contains m then some (g14_c5 d l x, ()) else some ((bif bif g14_c8 d l x then g14_c9 d l x else false then true else false), ())) = some (true, ()) := by
        cases hcm : l.contains m with
        | true =>
          have hnf : (freeF d l).contains m = false := by
            rw [Bool.eq_false_iff]
            intro hc
            exact ((free_iff h hm).1 hc).1 (List.contains_iff_mem.1 hcm)
          have : g14_c5 d l x = true := by
            unfold g14_c5 g14_c4
            simp only [e90, eT2, hF0, hu, hq, hnf, ir]
            rfl
          rw [this]; rfl
        | false =>
          have hnm : m ∉ l := fun hc => by rw [List.contains_iff_mem.2 hc] at hcm; cases hcm
          obtain ⟨o1, o2⟩ := more_cap h hz hm hnm
          have hls : (sortL (l ++ [m])).length = l.length + 1 := by rw [sortL_len, List.length_append]; rfl
          have eS : List.take (l.length + 1) (List.drop 0 (sortL (l ++ [m]))) = sortL (l ++ [m]) := by rw [List.drop_zero, List.take_of_length_le (by omega)]
          have hCm : capX d (sortL (l ++ [m])) = (ieq (setsF d (sortL (l ++ [m]))) 0, 0, ()) := by rw [capX, if_pos o1]
          have e8 : g14_c8 d l x = true := by
            unfold g14_c8 g14_c7
            simp only [e90, eT2, hF0, hu, hq, List.take_length, eS, hCm, ir]
            rfl
          have e9 : g14_c9 d l x = true := by
            unfold g14_c9 g14_c6
            simp only [e90, eT2, hF0, hu, hq, List.take_length, eS, hCm]
            have : ieq (setsF d (sortL (l ++ [m]))) 0 = (freeF d l).contains m := by
              rw [Bool.eq_iff_iff, ieq_iff]; exact o2
            rw [this]
            cases (freeF d l).contains m <;> rfl
          rw [e8, e9]; rfl
      have hls : (sortL (l ++ [m])).length = l.length + 1 := by rw [sortL_len, List.length_append]; rfl
      have hss : small (sortL (l ++ [m])) := by unfold small; omega
      have eS : List.take (l.length + 1) (List.drop 0 (sortL (l ++ [m]))) = sortL (l ++ [m]) := by rw [List.drop_zero, List.take_of_length_le (by omega)]
      have b1 : (l.length + 1) * 8 ≤ 1099511627776 := by omega
      have b2 : l.length + 1 < 4611686018427387904 := by omega
      have b3 : 0 ≤ d ∧ d < 5 := by omega
      cases hff : ieq f 0 with
      | true =>
        have hgc := (hG2 hff).2
        have hl0 := (hG2 hff).1
        have hG1' := hG1
        rw [hff] at hG1'
        have k1 : g14_c1 d = true := by unfold g14_c1; simp only [hG, hff, hG1']; rfl
        have k2 : g14_c2 d = true := by unfold g14_c2; simp only [hG, hff, hG1', hl0]; rfl
        simp only [hff, k1, k2, hl0, Bool.and_true, Bool.and_false, hz', hF0, hgc, ir, eS, hls, hss, b1, b2, b3, List.length_append, List.length_cons, List.length_nil, show (0 : Nat) + 1 = 1 from rfl, gd_true, Bool.not_true, Bool.not_false, cond_true, cond_false, hsm, hsF, hsG, List.take_length, imp_self, true_implies, implies_true, and_self, and_true, true_and, Nat.le_refl, hnz, ne_eq, not_false_eq_true, Nat.zero_add, Bool.false_eq_true, Bool.true_eq_false, false_implies]
        exact htail
      | false =>
        have hG1' := hG1
        rw [hff] at hG1'
        have k2 : g14_c2 d = true := by unfold g14_c2; simp only [hG, hff, hG1']; rfl
        simp only [hff, k2, Bool.and_true, Bool.and_false, hz', hF0, ir, eS, hls, hss, b1, b2, b3, List.length_append, List.length_cons, List.length_nil, show (0 : Nat) + 1 = 1 from rfl, gd_true, Bool.not_true, Bool.not_false, cond_true, cond_false, hsm, hsF, hsG, List.take_length, imp_self, true_implies, implies_true, and_self, and_true, true_and, Nat.le_refl, hnz, ne_eq, not_false_eq_true, Nat.zero_add, Bool.false_eq_true, Bool.true_eq_false, false_implies]
        exact htail
    · have hF0 : freeX d l = ([], 5, ()) := by rw [hF, if_neg (by omega)]
      have hz' : ieq (setsF d l) 0 = false := by rw [Bool.eq_false_iff]; intro hc; exact hz (ieq_iff.1 hc)
      have b3 : 0 ≤ d ∧ d < 5 := by omega
      cases hff : ieq f 0 with
      | true =>
        have hgc := (hG2 hff).2
        have hl0 := (hG2 hff).1
        have hG1' := hG1
        rw [hff] at hG1'
        have k1 : g14_c1 d = true := by unfold g14_c1; simp only [hG, hff, hG1']; rfl
        have k2 : g14_c2 d = true := by unfold g14_c2; simp only [hG, hff, hG1', hl0]; rfl
        simp only [hff, k1, k2, hl0, Bool.and_true, Bool.and_false, hz', hF0, hgc, ir, b3, gd_true, Bool.not_true, Bool.not_false, cond_true, cond_false, hsm, hsF, hsG, List.take_length, imp_self, true_implies, implies_true, and_self, and_true, true_and, Nat.le_refl, hnz, ne_eq, not_false_eq_true, Nat.zero_add, Bool.false_eq_true, Bool.true_eq_false, false_implies]
      | false =>
        have hG1' := hG1
        rw [hff] at hG1'
        have k2 : g14_c2 d = true := by unfold g14_c2; simp only [hG, hff, hG1']; rfl
        simp only [hff, k2, Bool.and_true, Bool.and_false, hz', hF0, ir, b3, gd_true, Bool.not_true, Bool.not_false, cond_true, cond_false, hsm, hsF, hsG, List.take_length, imp_self, true_implies, implies_true, and_self, and_true, true_and, Nat.le_refl, hnz, ne_eq, not_false_eq_true, Nat.zero_add, Bool.false_eq_true, Bool.true_eq_false, false_implies]
  · have hC : capX d (l.take 90) = (false, 2, ()) := by rw [capX, if_neg (by rw [okH_take]; exact h)]
    unfold g14
    simp only [eT, hC, h90, hsm, gd_true]
    simp [gd_true, ieq_d, List.length_take]
set_option maxRecDepth 100000 in
theorem ok14 : con14.Ok Try.prog := Con.of_goalS mixed (okC ok20 (okC ok22 (okC ok23 (okC ok29 (okC ok30 (okC ok45 (okC ok53 okN))))))) (okS ok19s (okS (ok52 true) okS0)) con14 goal14
end Go.Caps
