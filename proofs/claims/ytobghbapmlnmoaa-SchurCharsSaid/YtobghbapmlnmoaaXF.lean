/- Schur: contracts of the sum of products. -/
import Derived.Test.YtobghbapmlnmoaaXE
import Derived.Test.YtobghbapmlnmoaaXI
import Derived.Test.YtobghbapmlnmoaaXJ
set_option linter.unusedVariables false
set_option linter.unusedSimpArgs false
namespace Go.Schur
open Go Go.Ab Go.Proofs

end Go.Schur

set_option linter.unusedVariables false
set_option linter.unusedSimpArgs false
namespace Go.Schur
open Go Go.Ab Go.Proofs

end Go.Schur

set_option linter.unusedVariables false
set_option linter.unusedSimpArgs false
namespace Go.Schur
open Go Go.Ab Go.Proofs

end Go.Schur

set_option linter.unusedVariables false
set_option linter.unusedSimpArgs false
namespace Go.Schur
open Go Go.Ab Go.Proofs

theorem wr_mod {a b : Int} (h : ∃ k, a = b + 18446744073709551616 * k) : wr .i64 a = wr .i64 b := by
  obtain ⟨k, rfl⟩ := h
  show IntKind.i64.wrap _ = IntKind.i64.wrap _
  rw [IntKind.wrap_i64, IntKind.wrap_i64]; omega
theorem wr_dif {n : Int} : ∃ k, wr .i64 n = n + 18446744073709551616 * k := by
  refine ⟨(wr .i64 n - n) / 18446744073709551616, ?_⟩
  have : wr .i64 n = IntKind.i64.wrap n := rfl
  rw [this, IntKind.wrap_i64]; omega
theorem wr_add_l {a b : Int} : wr .i64 (wr .i64 a + b) = wr .i64 (a + b) := by
  obtain ⟨k, hk⟩ := wr_dif (n := a)
  exact wr_mod ⟨k, by rw [hk]; omega⟩
theorem wr_add_r {a b : Int} : wr .i64 (a + wr .i64 b) = wr .i64 (a + b) := by rw [Int.add_comm, wr_add_l, Int.add_comm]
/-! The sum over all fillings, by the greatest number. -/
def pw (y : Int) (n : Nat) : Int := y ^ n
/-- The last number first. -/
def sR : List Int → List Nat → Int
  | [], l => bif isZ l then 1 else 0
  | y :: ys, l => sL (subs l) fun ν => pw y (l.sum - ν.sum) * sR ys ν
/-- The value of a shape. -/
def schN (p : List Nat) (x : List Int) : Int := sR x.reverse p
end Go.Schur

set_option linter.unusedVariables false
set_option linter.unusedSimpArgs false
namespace Go.Schur
open Go Go.Ab Go.Proofs
/-- The value, as it is reckoned. -/
def schW (l x : List Int) : Int := wr .i64 (schN (l.map Int.toNat) x)
def okX (x : List Int) : Prop := 1 ≤ x.length ∧ x.length ≤ 4 ∧ ∀ a ∈ x, -3 ≤ a ∧ a ≤ 3
instance {x : List Int} : Decidable (okX x) := by unfold okX; infer_instance
def schF2 (l x : List Int) : Int × Int × Unit := if shapeB l = true ∧ okX x then (schW l x, 0, ()) else (0, 2, ())
def numB (x : List Int) : Bool := decide (okX x)
noncomputable def g4 (x0 x1 : List Int) : Option (Bool × Unit) := gd (List.length (List.take (12 : Nat) x0) ≤ (1000 : Nat) ∧ List.length (List.take (12 : Nat) x1) ≤ (1000 : Nat)) (gd (small x0) (gd ((!!shapeB x0) = true → (!!shapeB x0) = true ∧ small x1) (gd ((!!shapeB x0) = true → (!!shapeB x0) = true) (gd ((!shapeB x0) = false → (!!shapeB x0) = true) (bif bif !shapeB x0 then true else !numB x1 then gd (ieq (schF2 (List.take (12 : Nat) x0) (List.take (12 : Nat) x1)).1 (0 : Int) = true → ieq (schF2 (List.take (12 : Nat) x0) (List.take (12 : Nat) x1)).1 (0 : Int) = true) (gd (ieq (schF2 (List.take (12 : Nat) x0) (List.take (12 : Nat) x1)).1 (0 : Int) = true → ieq (schF2 (List.take (12 : Nat) x0) (List.take (12 : Nat) x1)).1 (0 : Int) = true) (gd ((bif ieq (schF2 (List.take (12 : Nat) x0) (List.take (12 : Nat) x1)).1 (0 : Int) then ieq (schF2 (List.take (12 : Nat) x0) (List.take (12 : Nat) x1)).2.1 (2 : Int) else false) = true → (bif ieq (schF2 (List.take (12 : Nat) x0) (List.take (12 : Nat) x1)).1 (0 : Int) then ieq (schF2 (List.take (12 : Nat) x0) (List.take (12 : Nat) x1)).2.1 (2 : Int) else false) = true) (some ((bif bif ieq (schF2 (List.take (12 : Nat) x0) (List.take (12 : Nat) x1)).1 (0 : Int) then ieq (schF2 (List.take (12 : Nat) x0) (List.take (12 : Nat) x1)).2.1 (2 : Int) else false then true else false, ()) : Bool × Unit)))) else gd (shapeB x0 = true ∧ okX x1) (gd (ieq (schF2 (List.take (12 : Nat) x0) (List.take (12 : Nat) x1)).1 (schW x0 x1) = true → ieq (schF2 (List.take (12 : Nat) x0) (List.take (12 : Nat) x1)).1 (schW x0 x1) = true) (gd (ieq (schF2 (List.take (12 : Nat) x0) (List.take (12 : Nat) x1)).1 (schW x0 x1) = true → ieq (schF2 (List.take (12 : Nat) x0) (List.take (12 : Nat) x1)).1 (schW x0 x1) = true) (gd ((bif ieq (schF2 (List.take (12 : Nat) x0) (List.take (12 : Nat) x1)).1 (schW x0 x1) then ieq (schF2 (List.take (12 : Nat) x0) (List.take (12 : Nat) x1)).2.1 (0 : Int) else false) = true → (bif ieq (schF2 (List.take (12 : Nat) x0) (List.take (12 : Nat) x1)).1 (schW x0 x1) then ieq (schF2 (List.take (12 : Nat) x0) (List.take (12 : Nat) x1)).2.1 (0 : Int) else false) = true) (some ((bif bif ieq (schF2 (List.take (12 : Nat) x0) (List.take (12 : Nat) x1)).1 (schW x0 x1) then ieq (schF2 (List.take (12 : Nat) x0) (List.take (12 : Nat) x1)).2.1 (0 : Int) else false then true else false, ()) : Bool × Unit))))))))))
end Go.Schur

set_option linter.unusedVariables false
set_option linter.unusedSimpArgs false
namespace Go.Schur
open Go Go.Ab Go.Proofs

end Go.Schur

set_option linter.unusedVariables false
set_option linter.unusedSimpArgs false
namespace Go.Schur
open Go Go.Ab Go.Proofs

theorem kR_sL {k : Nat} {m l : List Nat} : (kR (k :: m) l : Int) = sL (subs l) fun ν => cond (Nat.beq (ν.sum + k) l.sum) (kR m ν : Int) 0 := by
  rw [kR, sum_cast, sL_map, sL_filter]
theorem kR_ne : ∀ {m l : List Nat}, m.sum ≠ l.sum → kR m l = 0
  | [], l, h => by
    rw [kR]
    cases hz : isZ l with
    | false => rfl
    | true =>
      exfalso
      apply h
      have : ∀ l : List Nat, isZ l = true → l.sum = 0 := by
        intro l
        induction l with
        | nil => intro _; rfl
        | cons a l ih =>
          intro h
          simp only [isZ, List.all_cons, Bool.and_eq_true] at h
          have := ih h.2
          have ha := Nat.eq_of_beq_eq_true h.1
          simp only [List.sum_cons]; omega
      rw [this l hz]; rfl
  | k :: m, l, h => by
    have : (kR (k :: m) l : Int) = 0 := by
      rw [kR_sL]
      refine Eq.trans (sL_congr (g := fun _ => (0 : Int)) fun ν _ => ?_) sL_zero
      cases hb : Nat.beq (ν.sum + k) l.sum with
      | false => rfl
      | true =>
        have := Nat.eq_of_beq_eq_true hb
        rw [cond_true, kR_ne (by simp only [List.sum_cons] at h; omega)]; rfl
    omega

end Go.Schur

set_option linter.unusedVariables false
set_option linter.unusedSimpArgs false
namespace Go.Schur
open Go Go.Ab Go.Proofs

theorem refFil_len {p q : List Nat} (hp : Small8 p) (hp8 : p.sum ≤ 8) (hps : shapeB (toI p) = true) (hq : q.length ≤ 8) (hs : q.sum ≤ 8) : ((refFil (toI p) (toI q)).length : Int) = (kR q.reverse p : Nat) := by
  rw [← eachF_ref hps (toI_cont hq hs), ← eachB_len, kos_kR hp hp8 hq hs]
  by_cases h : p.sum = q.sum
  · rw [if_pos h]
  · rw [if_neg h, kR_ne (by rw [List.sum_reverse]; omega)]; rfl
end Go.Schur
