/- Best: contracts of the law. -/
import Derived.Test.YtibpopddoggnkaaXT
set_option linter.unusedVariables false
set_option linter.unusedSimpArgs false
namespace Go.Signs
open Go Go.Ab Go.Proofs

def modP (c : Int) (n : Nat) : Nat := (c % (2 ^ n : Nat)).toNat
def rbit (r : Int) (i : Nat) : Bool := decide (r / (2 ^ i : Nat) % 2 = 1)
def turnN (l : List Int) (r c : Int) (i : Nat) : Nat := if rbit r i = true then (nx l i ^^^ modP c l.length) ^^^ (2 ^ l.length - 1) else nx l i ^^^ modP c l.length
def turnF (l : List Int) (r c : Int) : List Int := (List.range l.length).map fun (i : Nat) => (turnN l r c i : Int)
noncomputable def con34 : Con := mkC 34 [.d LI, .d I64, .d I64] [LI] (fun (l : List Int) (r c : Int) => [isM l 16 = true]) (fun (l : List Int) (r c : Int) => (turnF l r c, ()))
noncomputable def g34 (x0 : List Int) (x1 x2 : Int) : Option (List Int × Unit) := gd ((0 : Int) ≤ (↑(List.length x0) : Int)) (gd ((0 : Nat) = (0 : Nat)) (whileO (fun (d3 : Int × List Int × Unit) => bif ilt d3.1 (↑(List.length x0) : Int) then gd ((0 : Int) ≤ d3.1 ∧ d3.1 < (↑(List.length x0) : Int)) (gd ((0 : Int) ≤ d3.1) (bif ieq (iand IntKind.i64 (ishr IntKind.i64 x1 d3.1) (1 : Int)) (1 : Int) then gd (List.length d3.2.1 ≤ List.length d3.2.1) (gd ((List.length d3.2.1 + (1 : Nat)) * (8 : Nat) ≤ (1099511627776 : Nat)) (gd (List.length d3.2.1 + (1 : Nat) = List.length (List.take (List.length d3.2.1) d3.2.1 ++ ixor IntKind.i64 (ixor IntKind.i64 (List.getD x0 (Int.toNat d3.1) (0 : Int)) (iand IntKind.i64 x2 (wr IntKind.i64 (ishl IntKind.i64 (1 : Int) (↑(List.length x0) : Int) - (1 : Int))))) (wr IntKind.i64 (ishl IntKind.i64 (1 : Int) (↑(List.length x0) : Int) - (1 : Int))) :: ([] : List Int))) (some (Lp.go ((wr IntKind.i64 (d3.1 + (1 : Int)), List.take (List.length d3.2.1) d3.2.1 ++ ixor IntKind.i64 (ixor IntKind.i64 (List.getD x0 (Int.toNat d3.1) (0 : Int)) (iand IntKind.i64 x2 (wr IntKind.i64 (ishl IntKind.i64 (1 : Int) (↑(List.length x0) : Int) - (1 : Int))))) (wr IntKind.i64 (ishl IntKind.i64 (1 : Int) (↑(List.length x0) : Int) - (1 : Int))) :: ([] : List Int), ()) : Int × List Int × Unit))))) else gd (List.length d3.2.1 ≤ List.length d3.2.1) (gd ((List.length d3.2.1 + (1 : Nat)) * (8 : Nat) ≤ (1099511627776 : Nat)) (gd (List.length d3.2.1 + (1 : Nat) = List.length (List.take (List.length d3.2.1) d3.2.1 ++ ixor IntKind.i64 (List.getD x0 (Int.toNat d3.1) (0 : Int)) (iand IntKind.i64 x2 (wr IntKind.i64 (ishl IntKind.i64 (1 : Int) (↑(List.length x0) : Int) - (1 : Int)))) :: ([] : List Int))) (some (Lp.go ((wr IntKind.i64 (d3.1 + (1 : Int)), List.take (List.length d3.2.1) d3.2.1 ++ ixor IntKind.i64 (List.getD x0 (Int.toNat d3.1) (0 : Int)) (iand IntKind.i64 x2 (wr IntKind.i64 (ishl IntKind.i64 (1 : Int) (↑(List.length x0) : Int) - (1 : Int)))) :: ([] : List Int), ()) : Int × List Int × Unit))))))) else gd ((0 : Nat) + List.length d3.2.1 ≤ List.length d3.2.1) (some (Lp.out ((List.take (List.length d3.2.1) (List.drop (0 : Nat) d3.2.1), ()) : List Int × Unit)))) (((0 : Int), ([] : List Int), ()) : Int × List Int × Unit)))
noncomputable def g34_sh : List LSh := LSh.mk (((7, TV.slf (0) (1)) : Nat × TV) :: ((17, TV.v (Ty.int IntKind.i64)) : Nat × TV) :: ([] : List (Nat × TV))) (TB.arr (Ty.int IntKind.i64) true :: ([] : List TB)) :: ([] : List LSh)
noncomputable def con6 : Con := mkC 6 [.d LI, .d I64, .d I64] [.bool] (fun (l : List Int) (r c : Int) => [small l]) (fun (l : List Int) (r c : Int) => (true, ()))
noncomputable def g6_c0 (x0 : List Int) (x1 x2 : Int) : Bool := bif bif ieq (sumX (List.take (20 : Nat) x0)).2.1 (0 : Int) then ieq (balX (List.take (20 : Nat) x0)).2.1 (0 : Int) else false then ieq (bestX (turnF x0 x1 x2)).2.1 (0 : Int) else false
noncomputable def g6_c1 (x0 : List Int) (x1 x2 : Int) : Bool := bif bif g6_c0 x0 x1 x2 then ieq (sumX (turnF x0 x1 x2)).2.1 (0 : Int) else false then ile (bestX (List.take (20 : Nat) x0)).1 (wr IntKind.i64 ((↑(List.length x0) : Int) * (↑(List.length x0) : Int))) else false
noncomputable def g6_c2 (x0 : List Int) (x1 x2 : Int) : Bool := bif bif g6_c1 x0 x1 x2 then ile (sumX (List.take (20 : Nat) x0)).1 (bestX (List.take (20 : Nat) x0)).1 else false then ile (sumX (turnF x0 x1 x2)).1 (bestX (List.take (20 : Nat) x0)).1 else false
noncomputable def g6_c3 (x0 : List Int) (x1 x2 : Int) : Bool := (bif g6_c2 x0 x1 x2 then ieq (bestX (turnF x0 x1 x2)).1 (bestX (List.take (20 : Nat) x0)).1 else false) && ((bif g6_c2 x0 x1 x2 then ieq (bestX (turnF x0 x1 x2)).1 (bestX (List.take (20 : Nat) x0)).1 else false) && !!(balX (List.take (20 : Nat) x0)).1)
noncomputable def g6_c4 (x0 : List Int) : Bool := ile (wr IntKind.i64 ((bestX (List.take (20 : Nat) x0)).1 * (bestX (List.take (20 : Nat) x0)).1)) (wr IntKind.i64 (wr IntKind.i64 ((↑(List.length x0) : Int) * (↑(List.length x0) : Int)) * (↑(List.length x0) : Int)))
noncomputable def g6_c5 (x0 : List Int) (x1 x2 : Int) : Bool := bif bif bif g6_c2 x0 x1 x2 then ieq (bestX (turnF x0 x1 x2)).1 (bestX (List.take (20 : Nat) x0)).1 else false then bif !(balX (List.take (20 : Nat) x0)).1 then true else g6_c4 x0 else false then ieq (Int.tmod (wr IntKind.i64 ((bestX (List.take (20 : Nat) x0)).1 - (sumX (List.take (20 : Nat) x0)).1)) (2 : Int)) (0 : Int) else false
noncomputable def g6 (x0 : List Int) (x1 x2 : Int) : Option (Bool × Unit) := gd (small (List.take (20 : Nat) x0)) (gd (small (List.take (20 : Nat) x0)) (gd (small (List.take (20 : Nat) x0)) (gd ((!!ieq (bestX (List.take (20 : Nat) x0)).2.1 (0 : Int)) = true → (!!ieq (bestX (List.take (20 : Nat) x0)).2.1 (0 : Int)) = true ∧ small x0 ∧ (12 : Int) ≤ (16 : Int)) (gd ((!!ieq (bestX (List.take (20 : Nat) x0)).2.1 (0 : Int)) = true → (!!ieq (bestX (List.take (20 : Nat) x0)).2.1 (0 : Int)) = true) (gd ((!ieq (bestX (List.take (20 : Nat) x0)).2.1 (0 : Int)) = false → (!!ieq (bestX (List.take (20 : Nat) x0)).2.1 (0 : Int)) = true) (bif bif !ieq (bestX (List.take (20 : Nat) x0)).2.1 (0 : Int) then true else !isM x0 (12 : Int) then gd (ieq (bestX (List.take (20 : Nat) x0)).2.1 (2 : Int) = true → ieq (bestX (List.take (20 : Nat) x0)).2.1 (2 : Int) = true) (some ((bif ieq (bestX (List.take (20 : Nat) x0)).2.1 (2 : Int) then true else false, ()) : Bool × Unit)) else gd (isM x0 (16 : Int) = true) (gd (small (turnF x0 x1 x2)) (gd (isM x0 (16 : Int) = true) (gd (small (turnF x0 x1 x2)) (gd (ieq (sumX (List.take (20 : Nat) x0)).2.1 (0 : Int) = true → ieq (sumX (List.take (20 : Nat) x0)).2.1 (0 : Int) = true) (gd (ieq (sumX (List.take (20 : Nat) x0)).2.1 (0 : Int) = true → ieq (sumX (List.take (20 : Nat) x0)).2.1 (0 : Int) = true) (gd ((bif ieq (sumX (List.take (20 : Nat) x0)).2.1 (0 : Int) then ieq (balX (List.take (20 : Nat) x0)).2.1 (0 : Int) else false) = true → (bif ieq (sumX (List.take (20 : Nat) x0)).2.1 (0 : Int) then ieq (balX (List.take (20 : Nat) x0)).2.1 (0 : Int) else false) = true) (gd ((bif ieq (sumX (List.take (20 : Nat) x0)).2.1 (0 : Int) then ieq (balX (List.take (20 : Nat) x0)).2.1 (0 : Int) else false) = true → (bif ieq (sumX (List.take (20 : Nat) x0)).2.1 (0 : Int) then ieq (balX (List.take (20 : Nat) x0)).2.1 (0 : Int) else false) = true) (gd (g6_c0 x0 x1 x2 = true → g6_c0 x0 x1 x2 = true) (gd (g6_c0 x0 x1 x2 = true → g6_c0 x0 x1 x2 = true) (gd ((bif g6_c0 x0 x1 x2 then ieq (sumX (turnF x0 x1 x2)).2.1 (0 : Int) else false) = true → (bif g6_c0 x0 x1 x2 then ieq (sumX (turnF x0 x1 x2)).2.1 (0 : Int) else false) = true ∧ (bif g6_c0 x0 x1 x2 then ieq (sumX (turnF x0 x1 x2)).2.1 (0 : Int) else false) = true) (gd ((bif g6_c0 x0 x1 x2 then ieq (sumX (turnF x0 x1 x2)).2.1 (0 : Int) else false) = true → (bif g6_c0 x0 x1 x2 then ieq (sumX (turnF x0 x1 x2)).2.1 (0 : Int) else false) = true ∧ (bif g6_c0 x0 x1 x2 then ieq (sumX (turnF x0 x1 x2)).2.1 (0 : Int) else false) = true) (gd ((bif g6_c0 x0 x1 x2 then ieq (sumX (turnF x0 x1 x2)).2.1 (0 : Int) else false) = true → (bif g6_c0 x0 x1 x2 then ieq (sumX (turnF x0 x1 x2)).2.1 (0 : Int) else false) = true) (gd (g6_c1 x0 x1 x2 = true → g6_c1 x0 x1 x2 = true ∧ g6_c1 x0 x1 x2 = true) (gd (g6_c1 x0 x1 x2 = true → g6_c1 x0 x1 x2 = true) (gd ((bif g6_c1 x0 x1 x2 then ile (sumX (List.take (20 : Nat) x0)).1 (bestX (List.take (20 : Nat) x0)).1 else false) = true → (bif g6_c1 x0 x1 x2 then ile (sumX (List.take (20 : Nat) x0)).1 (bestX (List.take (20 : Nat) x0)).1 else false) = true ∧ (bif g6_c1 x0 x1 x2 then ile (sumX (List.take (20 : Nat) x0)).1 (bestX (List.take (20 : Nat) x0)).1 else false) = true) (gd ((bif g6_c1 x0 x1 x2 then ile (sumX (List.take (20 : Nat) x0)).1 (bestX (List.take (20 : Nat) x0)).1 else false) = true → (bif g6_c1 x0 x1 x2 then ile (sumX (List.take (20 : Nat) x0)).1 (bestX (List.take (20 : Nat) x0)).1 else false) = true) (gd (g6_c2 x0 x1 x2 = true → g6_c2 x0 x1 x2 = true ∧ g6_c2 x0 x1 x2 = true) (gd (g6_c2 x0 x1 x2 = true → g6_c2 x0 x1 x2 = true) (gd ((bif g6_c2 x0 x1 x2 then ieq (bestX (turnF x0 x1 x2)).1 (bestX (List.take (20 : Nat) x0)).1 else false) = true → (bif g6_c2 x0 x1 x2 then ieq (bestX (turnF x0 x1 x2)).1 (bestX (List.take (20 : Nat) x0)).1 else false) = true) (gd (((bif g6_c2 x0 x1 x2 then ieq (bestX (turnF x0 x1 x2)).1 (bestX (List.take (20 : Nat) x0)).1 else false) && ((bif g6_c2 x0 x1 x2 then ieq (bestX (turnF x0 x1 x2)).1 (bestX (List.take (20 : Nat) x0)).1 else false) && !!(balX (List.take (20 : Nat) x0)).1)) = true → g6_c3 x0 x1 x2 = true ∧ g6_c3 x0 x1 x2 = true) (gd (((bif g6_c2 x0 x1 x2 then ieq (bestX (turnF x0 x1 x2)).1 (bestX (List.take (20 : Nat) x0)).1 else false) && ((bif g6_c2 x0 x1 x2 then ieq (bestX (turnF x0 x1 x2)).1 (bestX (List.take (20 : Nat) x0)).1 else false) && !!(balX (List.take (20 : Nat) x0)).1)) = true → g6_c3 x0 x1 x2 = true ∧ g6_c3 x0 x1 x2 = true) (gd (((bif g6_c2 x0 x1 x2 then ieq (bestX (turnF x0 x1 x2)).1 (bestX (List.take (20 : Nat) x0)).1 else false) && ((bif g6_c2 x0 x1 x2 then ieq (bestX (turnF x0 x1 x2)).1 (bestX (List.take (20 : Nat) x0)).1 else false) && !!(balX (List.take (20 : Nat) x0)).1)) = true → g6_c3 x0 x1 x2 = true ∧ g6_c3 x0 x1 x2 = true) (gd (((bif g6_c2 x0 x1 x2 then ieq (bestX (turnF x0 x1 x2)).1 (bestX (List.take (20 : Nat) x0)).1 else false) && ((bif g6_c2 x0 x1 x2 then ieq (bestX (turnF x0 x1 x2)).1 (bestX (List.take (20 : Nat) x0)).1 else false) && !!(balX (List.take (20 : Nat) x0)).1)) = true → g6_c3 x0 x1 x2 = true ∧ g6_c3 x0 x1 x2 = true) (gd ((bif g6_c2 x0 x1 x2 then ieq (bestX (turnF x0 x1 x2)).1 (bestX (List.take (20 : Nat) x0)).1 else false) = true → (bif g6_c2 x0 x1 x2 then ieq (bestX (turnF x0 x1 x2)).1 (bestX (List.take (20 : Nat) x0)).1 else false) = true ∧ (bif g6_c2 x0 x1 x2 then ieq (bestX (turnF x0 x1 x2)).1 (bestX (List.take (20 : Nat) x0)).1 else false) = true ∧ ((!(balX (List.take (20 : Nat) x0)).1) = false → g6_c3 x0 x1 x2 = true)) (gd ((bif g6_c2 x0 x1 x2 then ieq (bestX (turnF x0 x1 x2)).1 (bestX (List.take (20 : Nat) x0)).1 else false) = true → (bif g6_c2 x0 x1 x2 then ieq (bestX (turnF x0 x1 x2)).1 (bestX (List.take (20 : Nat) x0)).1 else false) = true) (gd ((bif bif g6_c2 x0 x1 x2 then ieq (bestX (turnF x0 x1 x2)).1 (bestX (List.take (20 : Nat) x0)).1 else false then bif !(balX (List.take (20 : Nat) x0)).1 then true else g6_c4 x0 else false) = true → (bif bif g6_c2 x0 x1 x2 then ieq (bestX (turnF x0 x1 x2)).1 (bestX (List.take (20 : Nat) x0)).1 else false then bif !(balX (List.take (20 : Nat) x0)).1 then true else g6_c4 x0 else false) = true ∧ (bif bif g6_c2 x0 x1 x2 then ieq (bestX (turnF x0 x1 x2)).1 (bestX (List.take (20 : Nat) x0)).1 else false then bif !(balX (List.take (20 : Nat) x0)).1 then true else g6_c4 x0 else false) = true) (gd ((bif bif g6_c2 x0 x1 x2 then ieq (bestX (turnF x0 x1 x2)).1 (bestX (List.take (20 : Nat) x0)).1 else false then bif !(balX (List.take (20 : Nat) x0)).1 then true else g6_c4 x0 else false) = true → (bif bif g6_c2 x0 x1 x2 then ieq (bestX (turnF x0 x1 x2)).1 (bestX (List.take (20 : Nat) x0)).1 else false then bif !(balX (List.take (20 : Nat) x0)).1 then true else g6_c4 x0 else false) = true ∧ (2 : Int) ≠ (0 : Int)) (gd ((bif bif g6_c2 x0 x1 x2 then ieq (bestX (turnF x0 x1 x2)).1 (bestX (List.take (20 : Nat) x0)).1 else false then bif !(balX (List.take (20 : Nat) x0)).1 then true else g6_c4 x0 else false) = true → (bif bif g6_c2 x0 x1 x2 then ieq (bestX (turnF x0 x1 x2)).1 (bestX (List.take (20 : Nat) x0)).1 else false then bif !(balX (List.take (20 : Nat) x0)).1 then true else g6_c4 x0 else false) = true) (gd ((bif bif g6_c2 x0 x1 x2 then ieq (bestX (turnF x0 x1 x2)).1 (bestX (List.take (20 : Nat) x0)).1 else false then bif !(balX (List.take (20 : Nat) x0)).1 then true else g6_c4 x0 else false) = true → (bif bif g6_c2 x0 x1 x2 then ieq (bestX (turnF x0 x1 x2)).1 (bestX (List.take (20 : Nat) x0)).1 else false then bif !(balX (List.take (20 : Nat) x0)).1 then true else g6_c4 x0 else false) = true) (gd (g6_c5 x0 x1 x2 = true → g6_c5 x0 x1 x2 = true) (some ((bif g6_c5 x0 x1 x2 then true else false, ()) : Bool × Unit))))))))))))))))))))))))))))))))))))))
noncomputable def g6_sh : List LSh := ([] : List LSh)



end Go.Signs

set_option linter.unusedVariables false
set_option linter.unusedSimpArgs false
namespace Go.Signs
open Go Go.Ab Go.Proofs

theorem iand_mod {c : Int} {n : Nat} (hn : n ≤ 16) : iand .i64 c ((2 ^ n - 1 : Nat) : Int) = (modP c n : Int) := by
  have hp := pow_le16 hn
  have h1 : 1 ≤ 2 ^ n := Nat.one_le_two_pow
  show IntKind.i64.wrap (BitVec.ofInt 64 c &&& BitVec.ofInt 64 ((2 ^ n - 1 : Nat) : Int)).toNat = _
  rw [BitVec.toNat_and, bv_nat (by omega), BitVec.toNat_ofInt, Nat.and_two_pow_sub_one_eq_mod]
  have e : (c % ((2 ^ 64 : Nat) : Int)).toNat % 2 ^ n = modP c n := by
    unfold modP
    have hd : ((2 ^ n : Nat) : Int) ∣ ((2 ^ 64 : Nat) : Int) := Int.natCast_dvd_natCast.2 (Nat.pow_dvd_pow 2 (by omega))
    have h2 := Int.emod_emod_of_dvd c hd
    have h3 : 0 ≤ c % ((2 ^ 64 : Nat) : Int) := Int.emod_nonneg _ (by decide)
    rw [← h2]
    obtain ⟨y, hy⟩ : ∃ y : Nat, c % ((2 ^ 64 : Nat) : Int) = y := ⟨_, (Int.toNat_of_nonneg h3).symm⟩
    rw [hy, Int.toNat_natCast, ← Int.natCast_emod, Int.toNat_natCast]
  rw [e]
  have : modP c n < 2 ^ n := by rw [← e]; exact Nat.mod_lt _ (by omega)
  exact wrap_nat (by omega)
theorem modP_lt {c : Int} {n : Nat} : modP c n < 2 ^ n := by
  have h1 : 1 ≤ 2 ^ n := Nat.one_le_two_pow
  have h3 : 0 ≤ c % ((2 ^ n : Nat) : Int) := Int.emod_nonneg _ (by omega)
  have h4 : c % ((2 ^ n : Nat) : Int) < ((2 ^ n : Nat) : Int) := Int.emod_lt_of_pos _ (by omega)
  unfold modP; omega
theorem rbit_eq {r : Int} {i : Nat} (hi : i ≤ 16) : ieq (iand .i64 (ishr .i64 r i) 1) 1 = rbit r i := by
  have h1 : ishr .i64 r (i : Int) = r / ((2 ^ i : Nat) : Int) := by
    show Int.fdiv r (2 ^ (min (i : Int).toNat 64)) = _
    rw [Int.toNat_natCast, Nat.min_eq_left (by omega)]
    have : (2 : Int) ^ i = ((2 ^ i : Nat) : Int) := by rw [Int.natCast_pow]; rfl
    rw [this, Int.fdiv_eq_ediv_of_nonneg _ (Int.natCast_nonneg _)]
  have h2 := iand_mod (c := ishr .i64 r (i : Int)) (n := 1) (by omega)
  have h3 : ((2 ^ 1 - 1 : Nat) : Int) = 1 := rfl
  rw [h3] at h2
  rw [h2, h1]
  unfold rbit modP
  rw [ieq_d]
  have h4 : ((2 ^ 1 : Nat) : Int) = 2 := rfl
  rw [h4]
  generalize r / ((2 ^ i : Nat) : Int) = x
  exact decide_eq_decide.2 (by omega)

section
variable {l : List Int} {r c : Int} {m : Int}
theorem turn_len : (turnF l r c).length = l.length := by simp [turnF]
theorem turn_lt (h : isM l m = true) {i : Nat} (hi : i < l.length) : turnN l r c i < 2 ^ l.length := by
  have h1 := xor_lt (nx_get h hi).2 (modP_lt (c := c) (n := l.length))
  have h2 : 1 ≤ 2 ^ l.length := Nat.one_le_two_pow
  unfold turnN
  split
  · exact xor_lt h1 (by omega)
  · exact h1
theorem turn_at {i : Nat} (hi : i < l.length) : (turnF l r c).getD i 0 = (turnN l r c i : Int) := by
  rw [gd_at (by rw [turn_len]; exact hi)]
  simp [turnF]
theorem turn_nx {i : Nat} (hi : i < l.length) : nx (turnF l r c) i = turnN l r c i := by
  unfold nx
  rw [turn_at hi, Int.toNat_natCast]
theorem turn_isM (h : isM l m = true) : isM (turnF l r c) m = true := by
  obtain ⟨h1, h2, _⟩ := isM_spec h
  unfold isM
  simp only [Bool.and_eq_true, decide_eq_true_eq, List.all_eq_true, inM_d, turn_len, Int.toNat_natCast]
  refine ⟨⟨by omega, h2⟩, fun x hx => ?_⟩
  obtain ⟨i, hi, rfl⟩ := List.mem_map.1 hx
  have := turn_lt (r := r) (c := c) h (List.mem_range.1 hi)
  have h5 : ((2 ^ l.length : Nat) : Int) = (2 : Int) ^ l.length := by rw [Int.natCast_pow]; rfl
  omega
theorem turn_ent {i j : Nat} (hi : i < l.length) (hj : j < l.length) : ent (turnF l r c) i j = ent l i j * sg ((modP c l.length).testBit j) * sg (rbit r i) := by
  unfold ent
  rw [turn_nx hi]
  unfold turnN
  cases hr : rbit r i with
  | true =>
    rw [if_pos rfl, Nat.testBit_xor, Nat.testBit_xor, Nat.testBit_two_pow_sub_one, decide_eq_true hj, sg_xor, sg_xor]
  | false =>
    rw [if_neg (by simp), Nat.testBit_xor, sg_xor]
    exact (Int.mul_one _).symm

theorem absI_sg {b : Bool} {x : Int} : absI (sg b * x) = absI x := by
  unfold absI sg
  cases b
  · simp
  · simp only [if_true]
    split <;> split <;> omega
theorem turn_abs (t : Nat) : absSum (ent (turnF l r c)) l.length t = absSum (ent l) l.length (t ^^^ modP c l.length) := by
  unfold absSum
  refine sumN_congr fun i hi => ?_
  have : sumN (fun j => ent (turnF l r c) i j * sg (t.testBit j)) l.length = sg (rbit r i) * sumN (fun j => ent l i j * sg ((t ^^^ modP c l.length).testBit j)) l.length := by
    rw [← sumN_mul]
    refine sumN_congr fun j hj => ?_
    rw [turn_ent hi hj, Nat.testBit_xor, sg_xor]
    generalize ent l i j = a
    generalize sg ((modP c l.length).testBit j) = b
    generalize sg (rbit r i) = d
    generalize sg (t.testBit j) = e
    rw [Int.mul_comm (a * b) d, Int.mul_assoc, Int.mul_assoc a b e, Int.mul_comm b e]
  rw [this, absI_sg]
theorem best_eq (h : isM l 12 = true) : bestF l = maxN (absSum (ent l) l.length) (2 ^ l.length) := by
  obtain ⟨hM, h12⟩ := isM_12 h
  unfold bestF
  have : ∀ n, n ≤ 2 ^ l.length → maxN (fun t => sumG absI l t l.length) n = maxN (absSum (ent l) l.length) n := by
    intro n
    induction n with
    | zero => intro _; rfl
    | succ n ih => intro hn; rw [maxN, maxN, ih (by omega), best_ent hM (by omega)]
  exact this _ (Nat.le_refl _)
theorem best_turn (h : isM l 12 = true) : bestF (turnF l r c) = bestF l := by
  have h' := turn_isM (r := r) (c := c) h
  rw [best_eq h, best_eq h', turn_len]
  refine Int.le_antisymm (maxN_le maxN_pos fun t ht => ?_) (maxN_le maxN_pos fun t ht => ?_)
  · rw [turn_abs]
    exact le_maxN (xor_lt ht modP_lt)
  · have := le_maxN (f := absSum (ent (turnF l r c)) l.length) (xor_lt ht (modP_lt (c := c) (n := l.length)))
    rw [turn_abs, Nat.xor_assoc, Nat.xor_self, Nat.xor_zero] at this
    exact this

theorem sum_eq {l : List Int} (h : isM l 16 = true) : sumG idI l 0 l.length = sumN (fun i => sumN (ent l i) l.length) l.length := by
  rw [sumG_sumN]
  refine sumN_congr fun i hi => ?_
  rw [row_ent h hi (Nat.two_pow_pos _)]
  exact sumN_congr fun j _ => by rw [Nat.zero_testBit]; exact Int.mul_one _
theorem abs_zero {e : Nat → Nat → Int} {n : Nat} : absSum e n 0 = sumN (fun i => absI (sumN (e i) n)) n := by
  unfold absSum
  refine sumN_congr fun i _ => ?_
  congr 1
  exact sumN_congr fun j _ => by rw [Nat.zero_testBit]; exact Int.mul_one _
theorem sum_le_best {l : List Int} (h : isM l 12 = true) : sumG idI l 0 l.length ≤ bestF l := by
  rw [best_eq h, sum_eq (isM_12 h).1]
  refine Int.le_trans ?_ (le_maxN (t := 0) (Nat.two_pow_pos _))
  rw [abs_zero]
  exact sumN_le fun i _ => le_abs.1
theorem maxN_att {f : Nat → Int} (hf : ∀ t, 0 ≤ f t) : ∀ {n : Nat}, 0 < n → ∃ t, t < n ∧ maxN f n = f t
  | 1, _ => ⟨0, by omega, by have := hf 0; rw [maxN, maxN]; unfold imax; split <;> omega⟩
  | n + 2, _ => by
    obtain ⟨t, ht, h⟩ := maxN_att hf (n := n + 1) (by omega)
    rw [maxN]
    by_cases hl : maxN f (n + 1) < f (n + 1)
    · exact ⟨n + 1, by omega, by unfold imax; rw [if_pos hl]⟩
    · exact ⟨t, by omega, by unfold imax; rw [if_neg hl, h]⟩
theorem absSum_pos {e : Nat → Nat → Int} {n t : Nat} : 0 ≤ absSum e n t := by
  have := sumN_le (n := n) (f := fun _ => 0) (g := fun i => absI (sumN (fun j => e i j * sg (t.testBit j)) n)) fun i _ => le_abs.2.2
  rwa [sumN_zero] at this
theorem best_att {l : List Int} (h : isM l 12 = true) : ∃ t, bestF l = absSum (ent l) l.length t := by
  obtain ⟨t, _, ht⟩ := maxN_att (f := absSum (ent l) l.length) (fun _ => absSum_pos) (Nat.two_pow_pos l.length)
  exact ⟨t, by rw [best_eq h, ht]⟩
theorem best_att2 {l : List Int} (h : isM l 12 = true) : ∃ s, bestF l = absSum (fun i j => ent l j i) l.length s := by
  obtain ⟨t, _, ht⟩ := maxN_att (f := absSum (fun i j => ent l j i) l.length) (fun _ => absSum_pos) (Nat.two_pow_pos l.length)
  exact ⟨t, by rw [best_eq h, ← max_dual, ht]⟩
theorem ent_bd {l : List Int} {i j : Nat} : -1 ≤ ent l i j ∧ ent l i j ≤ 1 := sg_bd
theorem best_bd {l : List Int} (h : isM l 12 = true) : 0 ≤ bestF l ∧ bestF l ≤ l.length * l.length := by
  obtain ⟨t, ht⟩ := best_att h
  refine ⟨by rw [ht]; exact absSum_pos, ?_⟩
  rw [ht]
  refine (sumN_bd (c := l.length) fun i _ => ?_).2
  have := sumN_bd (f := fun j => ent l i j * sg (t.testBit j)) (c := 1) (n := l.length) fun j _ => sg_mul_bd
  obtain ⟨a1, a2, a3⟩ := le_abs (x := sumN (fun j => ent l i j * sg (t.testBit j)) l.length)
  have a4 : absI (sumN (fun j => ent l i j * sg (t.testBit j)) l.length) ≤ l.length := by unfold absI; split <;> omega
  omega

/-! ### Remainders by 2 -/
theorem sumN_mod {f g : Nat → Int} : ∀ {n : Nat}, (∀ i, i < n → f i % 2 = g i % 2) → sumN f n % 2 = sumN g n % 2
  | 0, _ => rfl
  | n + 1, h => by
    have h1 := sumN_mod (n := n) fun i hi => h i (by omega)
    have h2 := h n (by omega)
    rw [sumN, sumN]; omega
theorem best_mod {l : List Int} (h : isM l 12 = true) : (bestF l - sumG idI l 0 l.length) % 2 = 0 := by
  obtain ⟨t, ht⟩ := best_att h
  have h1 : bestF l % 2 = sumN (fun i => sumN (ent l i) l.length) l.length % 2 := by
    rw [ht]
    refine sumN_mod fun i _ => ?_
    have h2 : absI (sumN (fun j => ent l i j * sg (t.testBit j)) l.length) % 2 = sumN (fun j => ent l i j * sg (t.testBit j)) l.length % 2 := by unfold absI; split <;> omega
    rw [h2]
    refine sumN_mod fun j _ => ?_
    unfold ent
    cases (nx l i).testBit j <;> cases t.testBit j <;> rfl
  rw [← sum_eq (isM_12 h).1] at h1
  omega

/-! ### Rows that are balanced -/
theorem sq_pos {x : Int} : 0 ≤ x * x := by
  rcases Int.le_total 0 x with h | h
  · exact Int.mul_nonneg h h
  · have := Int.mul_nonneg (a := -x) (b := -x) (by omega) (by omega)
    rwa [Int.neg_mul_neg] at this
theorem sq_dev {f : Nat → Int} {a : Int} : ∀ {n : Nat}, 0 ≤ sumN (fun i => f i * f i) n - 2 * (a * sumN f n) + n * (a * a)
  | 0 => by simp [sumN]
  | n + 1 => by
    have h := sq_dev (f := f) (a := a) (n := n)
    have h2 : 0 ≤ (f n - a) * (f n - a) := sq_pos
    have e : (f n - a) * (f n - a) = f n * f n - 2 * (a * f n) + a * a := by grind
    have e2 : ((n + 1 : Nat) : Int) * (a * a) = n * (a * a) + a * a := by grind
    rw [sumN, sumN, Int.mul_add, e2]
    omega
theorem cauchy {f : Nat → Int} : ∀ {n : Nat}, sumN f n * sumN f n ≤ n * sumN (fun i => f i * f i) n
  | 0 => by simp [sumN]
  | n + 1 => by
    have h := cauchy (f := f) (n := n)
    have h2 := sq_dev (f := f) (a := f n) (n := n)
    rw [sumN, sumN]
    have e : (sumN f n + f n) * (sumN f n + f n) = sumN f n * sumN f n + 2 * (f n * sumN f n) + f n * f n := by grind
    have e2 : ((n + 1 : Nat) : Int) * (sumN (fun i => f i * f i) n + f n * f n) = n * sumN (fun i => f i * f i) n + sumN (fun i => f i * f i) n + (n * (f n * f n) + f n * f n) := by grind
    rw [e, e2]
    omega
theorem sumN_sq {f : Nat → Int} {n : Nat} : sumN f n * sumN f n = sumN (fun i => sumN (fun k => f i * f k) n) n := by
  have : sumN (fun i => sumN (fun k => f i * f k) n) n = sumN (fun i => sumN f n * f i) n := sumN_congr fun i _ => by rw [sumN_mul, Int.mul_comm]
  rw [this, sumN_mul]
/-- The product of two rows. -/
def dotR (l : List Int) (i k : Nat) : Int := sumN (fun j => ent l i j * ent l k j) l.length
theorem dot_pop {l : List Int} (h : isM l 16 = true) {i k : Nat} (hi : i < l.length) (hk : k < l.length) : dotR l i k = l.length - 2 * (popN (nx l i ^^^ nx l k) : Int) := by
  rw [← sum_pop (len16 (by omega) h).1 (xor_lt (nx_get h hi).2 (nx_get h hk).2)]
  exact sumN_congr fun j _ => by rw [Nat.testBit_xor, sg_xor]; rfl
theorem bal_dot {l : List Int} (h : isM l 16 = true) : balF l = true ↔ ∀ i k, i < l.length → k < l.length → i ≠ k → dotR l i k = 0 := by
  unfold balF
  simp only [List.all_eq_true, List.mem_range, decide_eq_true_eq]
  constructor
  · intro hb i k hi hk hne
    rw [dot_pop h hi hk]
    rcases Nat.lt_or_ge k i with hlt | hge
    · have := hb i hi k hlt; omega
    · have := hb k hk i (by omega)
      rw [Nat.xor_comm] at this
      omega
  · intro hb i hi k hk
    have := hb i k hi (by omega) (by omega)
    rw [dot_pop h hi (by omega)] at this
    omega
theorem ent_sq {l : List Int} {i j : Nat} : ent l i j * ent l i j = 1 := sg_sq
theorem sumN_const {c : Int} : ∀ {n : Nat}, sumN (fun _ => c) n = n * c
  | 0 => by simp [sumN]
  | n + 1 => by rw [sumN, sumN_const]; grind
theorem dot_self {l : List Int} {i : Nat} : dotR l i i = l.length := by
  unfold dotR
  rw [sumN_congr (g := fun _ => 1) fun j _ => ent_sq, sumN_const, Int.mul_one]
/-- Only one term is not 0. -/
theorem sumN_one {f : Nat → Int} {i : Nat} : ∀ {n : Nat}, i < n → (∀ k, k < n → k ≠ i → f k = 0) → sumN f n = f i
  | n + 1, hi, h => by
    rw [sumN]
    by_cases hn : i = n
    · subst hn
      rw [sumN_congr (g := fun _ => 0) fun k hk => h k (by omega) (by omega), sumN_zero, Int.zero_add]
    · rw [sumN_one (by omega) fun k hk hne => h k (by omega) hne, h n (by omega) (fun e => hn e.symm), Int.add_zero]
theorem bal_best {l : List Int} (h : isM l 12 = true) (hb : balF l = true) : bestF l * bestF l ≤ l.length * l.length * l.length := by
  obtain ⟨hM, h12⟩ := isM_12 h
  obtain ⟨s, hs⟩ := best_att2 h
  have hd := (bal_dot hM).1 hb
  have h1 := cauchy (f := fun j => absI (sumN (fun i => ent l i j * sg (s.testBit i)) l.length)) (n := l.length)
  have h2 : sumN (fun j => absI (sumN (fun i => ent l i j * sg (s.testBit i)) l.length) * absI (sumN (fun i => ent l i j * sg (s.testBit i)) l.length)) l.length = l.length * l.length := by
    have e1 : ∀ x : Int, absI x * absI x = x * x := fun x => by unfold absI; split <;> grind
    have e2 : sumN (fun j => absI (sumN (fun i => ent l i j * sg (s.testBit i)) l.length) * absI (sumN (fun i => ent l i j * sg (s.testBit i)) l.length)) l.length =
        sumN (fun i => sumN (fun k => sg (s.testBit i) * sg (s.testBit k) * dotR l i k) l.length) l.length := by
      have e3 : sumN (fun j => absI (sumN (fun i => ent l i j * sg (s.testBit i)) l.length) * absI (sumN (fun i => ent l i j * sg (s.testBit i)) l.length)) l.length = sumN (fun j => sumN (fun i => sumN (fun k => (ent l i j * sg (s.testBit i)) * (ent l k j * sg (s.testBit k))) l.length) l.length) l.length :=
        sumN_congr fun j _ => by rw [e1, sumN_sq]
      rw [e3, sumN_swap]
      refine sumN_congr fun i _ => ?_
      rw [sumN_swap]
      refine sumN_congr fun k _ => ?_
      unfold dotR
      rw [← sumN_mul]
      refine sumN_congr fun j _ => ?_
      grind
    rw [e2]
    have e4 : ∀ i, i < l.length → sumN (fun k => sg (s.testBit i) * sg (s.testBit k) * dotR l i k) l.length = l.length := fun i hi => by
      rw [sumN_one hi fun k hk hne => by rw [hd i k hi hk (fun e => hne e.symm), Int.mul_zero], sg_sq, dot_self, Int.one_mul]
    rw [sumN_congr e4, sumN_const]
  rw [h2] at h1
  have h3 : bestF l = sumN (fun j => absI (sumN (fun i => ent l i j * sg (s.testBit i)) l.length)) l.length := hs
  rw [h3, Int.mul_assoc]
  exact h1
end

end Go.Signs

set_option linter.unusedVariables false
set_option linter.unusedSimpArgs false
namespace Go.Signs
open Go Go.Ab Go.Proofs

theorem turn_take {l : List Int} {r c : Int} {i : Nat} (hi : i < l.length) : (turnF l r c).take (i + 1) = (turnF l r c).take i ++ [(turnN l r c i : Int)] := by
  have hl : i < (turnF l r c).length := by rw [turn_len]; exact hi
  rw [List.take_succ_eq_append_getElem hl]
  congr 2
  simp [turnF]

theorem goal34 : con34.goal Try.prog (spOf []) g34_sh [] lm30 := by
  have e : (∀ (l : List Int) (r c : Int), isM l 16 = true → g34 l r c = some (turnF l r c, ())) = con34.goal Try.prog (spOf []) g34_sh [] lm30 := by kernel_rfl
  rw [← e]
  intro l r c h
  have h16 := len16 (by omega) h
  have hp := pow16 (by omega) h
  have h1 : 1 ≤ 2 ^ l.length := Nat.one_le_two_pow
  have hall : wr .i64 (ishl .i64 1 (l.length : Int) - 1) = ((2 ^ l.length - 1 : Nat) : Int) := by
    rw [ishl_one h16.1, wr_id (by omega)]; omega
  have hc : iand .i64 c ((2 ^ l.length - 1 : Nat) : Int) = (modP c l.length : Int) := iand_mod h16.1
  have hcl := modP_lt (c := c) (n := l.length)
  unfold g34
  rw [gd_pos (by omega), gd_pos rfl]
  simp only [hall, hc]
  refine whileO_nat (st := fun i => ((((i : Nat) : Int), (turnF l r c).take i, ()) : Row)) (lo := 0) (hi := l.length) (by omega) (fun i _ hi => ?_) ?_
  · simp only
    obtain ⟨a1, a2⟩ := nx_get h hi
    have hx := xor_lt a2 hcl
    have hl : ((turnF l r c).take i).length = i := by rw [List.length_take, turn_len]; omega
    have ht : List.take i ((turnF l r c).take i) = (turnF l r c).take i := by rw [List.take_take, Nat.min_self]
    rw [rbit_eq (by omega), Int.toNat_natCast, a1, ixor_nat (by omega) (by omega), ixor_nat (by omega) (by omega), turn_take hi]
    rw [cond_t (ilt_iff.2 (by omega)), gd_pos (by omega), gd_pos (by omega)]
    simp only [hl, ht, Nat.le_refl, gd_true, List.length_append, List.length_singleton]
    unfold turnN
    cases hb : rbit r i with
    | true =>
      rw [cond_t rfl, gd_pos (by omega), if_pos rfl, cast1 (by omega)]
    | false =>
      rw [cond_f rfl, gd_pos (by omega), if_neg (by simp), cast1 (by omega)]
  · simp only
    have hl : (turnF l r c).take l.length = turnF l r c := by rw [List.take_of_length_le (by rw [turn_len]; omega)]
    rw [cond_f (ilt_false.2 (by omega)), gd_pos (by omega), take_all, hl]
set_option maxRecDepth 100000 in
theorem ok34 : con34.Ok Try.prog := Con.of_goal mixed okN con34 goal34

theorem goal6 : con6.goal Try.prog (spOf [con18, con27, con26, con30, con23, con24, con34]) g6_sh [] lm30 := by
  have e : (∀ (l : List Int) (r c : Int), small l → g6 l r c = some (true, ())) = con6.goal Try.prog (spOf [con18, con27, con26, con30, con23, con24, con34]) g6_sh [] lm30 := by kernel_rfl
  rw [← e]
  intro l r c hs
  have ta : small (l.take 20) := small16 (by rw [List.length_take]; omega)
  have i00 : ieq 0 0 = true := rfl
  have i22 : ieq 2 2 = true := rfl
  cases h : isM l 12 with
  | false =>
    have hB : bestX (l.take 20) = (0, 2, ()) := by unfold bestX; rw [isM_take (by omega), h]; rfl
    unfold g6
    rw [gd_pos ta, gd_pos ta, gd_pos ta, hB, h]
    simp [gd_true, ieq_d]
  | true =>
    obtain ⟨hM, h12⟩ := isM_12 h
    have h16 := len16 (by omega) hM
    have e1 : l.take 20 = l := List.take_of_length_le (by omega)
    have h' := turn_isM (r := r) (c := c) h
    have hM' := turn_isM (r := r) (c := c) hM
    have hB : bestX (l.take 20) = (bestF l, 0, ()) := by rw [e1, bestX, if_pos h]
    have hS : sumX (l.take 20) = (sumG idI l 0 l.length, 0, ()) := by rw [e1, sumX, if_pos hM]
    have hK : balX (l.take 20) = (balF l, 0, ()) := by rw [e1, balX, if_pos hM]
    have hB' : bestX (turnF l r c) = (bestF l, 0, ()) := by rw [bestX, if_pos h', best_turn h]
    have hS' : sumX (turnF l r c) = (sumG idI (turnF l r c) 0 l.length, 0, ()) := by rw [sumX, if_pos hM', turn_len]
    have hst : small (turnF l r c) := small16 (by rw [turn_len]; omega)
    have b1 := best_bd h
    have s1 := sum_le_best h
    have s2 : sumG idI (turnF l r c) 0 l.length ≤ bestF l := by
      have := sum_le_best h'
      rwa [turn_len, best_turn h] at this
    have m1 := best_mod h
    have hnn : (l.length : Int) * l.length ≤ 144 := by
      have : l.length * l.length ≤ 12 * 12 := Nat.mul_le_mul h12 h12
      have e2 : (l.length : Int) * (l.length : Int) = ((l.length * l.length : Nat) : Int) := by simp
      omega
    have hnnn : 0 ≤ (l.length : Int) * l.length * l.length ∧ (l.length : Int) * l.length * l.length ≤ 1728 := by
      have : l.length * l.length * l.length ≤ 12 * 12 * 12 := Nat.mul_le_mul (Nat.mul_le_mul h12 h12) h12
      have e2 : (l.length : Int) * (l.length : Int) * (l.length : Int) = ((l.length * l.length * l.length : Nat) : Int) := by simp
      omega
    have hbb : 0 ≤ bestF l * bestF l ∧ bestF l * bestF l ≤ 144 * 144 := mul_bd (c := 144) (by omega) (by omega)
    have sb := sumG_bd id_bd hM (t := 0) (Nat.two_pow_pos _) l.length (Nat.le_refl _)
    have w1 : wr .i64 ((l.length : Int) * l.length) = (l.length : Int) * l.length := wr_id (by have := hnnn; omega)
    have w2 : wr .i64 ((l.length : Int) * l.length * l.length) = (l.length : Int) * l.length * l.length := wr_id (by omega)
    have w3 : wr .i64 (bestF l * bestF l) = bestF l * bestF l := wr_id (by omega)
    have w4 : wr .i64 (bestF l - sumG idI l 0 l.length) = bestF l - sumG idI l 0 l.length := wr_id (by omega)
    have t1 : Int.tmod (bestF l - sumG idI l 0 l.length) 2 = 0 := by
      rw [Int.tmod_eq_emod_of_nonneg (by omega)]; exact m1
    have k1 : ile (bestF l) ((l.length : Int) * l.length) = true := ile_iff.2 b1.2
    have k2 : ile (sumG idI l 0 l.length) (bestF l) = true := ile_iff.2 s1
    have k3 : ile (sumG idI (turnF l r c) 0 l.length) (bestF l) = true := ile_iff.2 s2
    have k4 : ieq (bestF l) (bestF l) = true := ieq_iff.2 rfl
    have k5 : balF l = true → ile (bestF l * bestF l) ((l.length : Int) * l.length * l.length) = true := fun hb => ile_iff.2 (bal_best h hb)
    unfold g6 g6_c5 g6_c4 g6_c3 g6_c2 g6_c1 g6_c0
    rw [gd_pos ta, gd_pos ta, gd_pos ta]
    simp only [hB, hS, hK, hB', hS', h, hM, hst, w1, w2, w3, w4, t1, k1, k2, k3, k4, i00, hs]
    cases hb : balF l with
    | true => simp [gd_true, k5 hb]
    | false => simp [gd_true]
set_option maxRecDepth 100000 in
theorem ok6 : con6.Ok Try.prog := Con.of_goal mixed (okC ok18 (okC ok27 (okC ok26 (okC ok30 (okC ok23 (okC ok24 (okC ok34 okN))))))) con6 goal6

end Go.Signs
