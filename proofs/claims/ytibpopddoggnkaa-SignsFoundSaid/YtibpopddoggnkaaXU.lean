/- Best: contracts of the law. -/
import Derived.Test.YtibpopddoggnkaaXT
set_option linter.unusedVariables false
set_option linter.unusedSimpArgs false
namespace Go.Signs
open Go Go.Ab Go.Proofs

def modP (c : Int) (n : Nat) : Nat := (c % (2 ^ n : Nat)).toNat
def rbit (r : Int) (i : Nat) : Bool := decide (r / (2 ^ i : Nat) % 2 = 1)
def turnN (l : List Int) (r c : Int) (i : Nat) : Nat := if rbit r i = true then (nx l i ^^^ modP c l.length) ^^^ (2 ^ l.length - 1) else nx l i ^^^ modP c l.length
def turnF (l : List Int) (r c : Int) : List Int := (List.range l.length).map fun (i : Nat) => (turnN l r c i : Int)
noncomputable def con34 : Con := mkC 34 [.d LI, .d I64, .d I64] [LI] (fun (l : List Int) (r c : Int) => [isM l 16 = true]) (fun (l : List Int) (r c : Int) => (turnF l r c, ()))
noncomputable def g34 (x0 : List Int) (x1 x2 : Int) : Option (List Int × Unit) := gd ((0 : Int) ≤ (↑(List.length x0) : Int)) (gd ((0 : Nat) = (0 : Nat)) (whileO (fun (d3 : Int × List Int × Unit) => bif ilt d3.1 (↑(List.length x0) : Int) then gd ((0 : Int) ≤ d3.1 ∧ d3.1 < (↑(List.length x0) : Int)) (gd ((0 : Int) ≤ d3.1) (bif ieq (iand IntKind.i64 (ishr IntKind.i64 x1 d3.1) (1 : Int)) (1 : Int) then gd (List.length d3.2.1 ≤ List.length d3.2.1) (gd ((List.length d3.2.1 + (1 : Nat)) * (8 : Nat) ≤ (1099511627776 : Nat)) (gd (List.length d3.2.1 + (1 : Nat) = List.length (List.take (List.length d3.2.1) d3.2.1 ++ ixor IntKind.i64 (ixor IntKind.i64 (List.getD x0 (Int.toNat d3.1) (0 : Int)) (iand IntKind.i64 x2 (wr IntKind.i64 (ishl IntKind.i64 (1 : Int) (↑(List.length x0) : Int) - (1 : Int))))) (wr IntKind.i64 (ishl IntKind.i64 (1 : Int) (↑(List.length x0) : Int) - (1 : Int))) :: ([] : List Int))) (some (Lp.go ((wr IntKind.i64 (d3.1 + (1 : Int)), List.take (List.length d3.2.1) d3.2.1 ++ ixor IntKind.i64 (ixor IntKind.i64 (List.getD x0 (Int.toNat d3.1) (0 : Int)) (iand IntKind.i64 x2 (wr IntKind.i64 (ishl IntKind.i64 (1 : Int) (↑(List.length x0) : Int) - (1 : Int))))) (wr IntKind.i64 (ishl IntKind.i64 (1 : Int) (↑(List.length x0) : Int) - (1 : Int))) :: ([] : List Int), ()) : Int × List Int × Unit))))) else gd (List.length d3.2.1 ≤ List.length d3.2.1) (gd ((List.length d3.2.1 + (1 : Nat)) * (8 : Nat) ≤ (1099511627776 : Nat)) (gd (List.length d3.2.1 + (1 : Nat) = List.length (List.take (List.length d3.2.1) d3.2.1 ++ ixor IntKind.i64 (List.getD x0 (Int.toNat d3.1) (0 : Int)) (iand IntKind.i64 x2 (wr IntKind.i64 (ishl IntKind.i64 (1 : Int) (↑(List.length x0) : Int) - (1 : Int)))) :: ([] : List Int))) (some (Lp.go ((wr IntKind.i64 (d3.1 + (1 : Int)), List.take (List.length d3.2.1) d3.2.1 ++ ixor IntKind.i64 (List.getD x0 (Int.toNat d3.1) (0 : Int)) (iand IntKind.i64 x2 (wr IntKind.i64 (ishl IntKind.i64 (1 : Int) (↑(List.length x0) : Int) - (1 : Int)))) :: ([] : List Int), ()) : Int × List Int × Unit))))))) else gd ((0 : Nat) + List.length d3.2.1 ≤ List.length d3.2.1) (some (Lp.out ((List.take (List.length d3.2.1) (List.drop (0 : Nat) d3.2.1), ()) : List Int × Unit)))) (((0 : Int), ([] : List Int), ()) : Int × List Int × Unit)))
noncomputable def g34_sh : List LSh := LSh.mk (((7, TV.slf (0) (1)) : Nat × TV) :: ((17, TV.v (Ty.int IntKind.i64)) : Nat × TV) :: ([] : List (Nat × TV))) (TB.arr (Ty.int IntKind.i64) true :: ([] : List TB)) :: ([] : List LSh)
noncomputable def con6 : Con := mkC 6 [.d LI, .d I64, .d I64] [.bool] (fun (l : List Int) (r c : Int) => [small l]) (fun (l : List Int) (r c : Int) => (true, ()))
noncomputable def g6_c0 (x0 : List Int) (x1 x2 : Int) : Bool := bif bif ieq (sumX (List.take (20 : Nat) x0)).2.1 (0 : Int) then ieq (balX (List.take (20 : Nat) x0)).2.1 (0 : Int) else false then ieq (bestX (turnF x0 x1 x2)).2.1 (0 : Int) else false
noncomputable def g6_c1 (x0 : List Int) (x1 x2 : Int) : Bool := bif bif g6_c0 x0 x1 x2 then ieq (sumX (turnF x0 x1 x2)).2.1 (0 : Int) else false then ile (bestX (List.take (20 : Nat) x0)).1 (wr IntKind.i64 ((↑(List.length x0) : Int) * (↑(List.length x0) : Int))) else false
noncomputable def g6_c2 (x0 : List Int) (x1 x2 : Int) : Bool := bif bif g6_c1 x0 x1 x2 then ile (sumX (List.take (20 : Nat) x0)).1 (bestX (List.take (20 : Nat) x0)).1 else false then ile (sumX (turnF x0 x1 x2)).1 (bestX (List.take (20 : Nat) x0)).1 else false
noncomputable def g6_c3 (x0 : List Int) (x1 x2 : Int) : Bool := (bif g6_c2 x0 x1 x2 then ieq (bestX (turnF x0 x1 x2)).1 (bestX (List.take (20 : Nat) x0)).1 else false) && ((bif g6_c2 x0 x1 x2 then ieq (bestX (turnF x0 x1 x2)).1 (bestX (List.take (20 : Nat) x0)).1 else false) && !!(balX (List.take (20 : Nat) x0)).1)
noncomputable def g6_c4 (x0 : List Int) : Bool := ile (wr IntKind.i64 ((bestX (List.take (20 : Nat) x0)).1 * (bestX (List.take (20 : Nat) x0)).1)) (wr IntKind.i64 (wr IntKind.i64 ((↑(List.length x0) : Int) * (↑(List.length x0) : Int)) * (↑(List.length x0) : Int)))
noncomputable def g6_c5 (x0 : List Int) (x1 x2 : Int) : Bool := bif bif bif g6_c2 x0 x1 x2 then ieq (bestX (turnF x0 x1 x2)).1 (bestX (List.take (20 : Nat) x0)).1 else false then bif !(balX (List.take (20 : Nat) x0)).1 then true else g6_c4 x0 else false then ieq (Int.tmod (wr IntKind.i64 ((bestX (List.take (20 : Nat) x0)).1 - (sumX (List.take (20 : Nat) x0)).1)) (2 : Int)) (0 : Int) else false
noncomputable def g6 (x0 : List Int) (x1 x2 : Int) : Option (Bool × Unit) := gd (small (List.take (20 : Nat) x0)) (gd (small (List.take (20 : Nat) x0)) (gd (small (List.take (20 : Nat) x0)) (gd ((!!ieq (bestX (List.take (20 : Nat) x0)).2.1 (0 : Int)) = true → (!!ieq (bestX (List.take (20 : Nat) x0)).2.1 (0 : Int)) = true ∧ small x0 ∧ (12 : Int) ≤ (16 : Int)) (gd ((!!ieq (bestX (List.take (20 : Nat) x0)).2.1 (0 : Int)) = true → (!!ieq (bestX (List.take (20 : Nat) x0)).2.1 (0 : Int)) = true) (gd ((!ieq (bestX (List.take (20 : Nat) x0)).2.1 (0 : Int)) = false → (!!ieq (bestX (List.take (20 : Nat) x0)).2.1 (0 : Int)) = true) (bif bif !ieq (bestX (List.take (20 : Nat) x0)).2.1 (0 : Int) then true else !isM x0 (12 : Int) then gd (ieq (bestX (List.take (20 : Nat) x0)).2.1 (2 : Int) = true → ieq (bestX (List.take (20 : Nat) x0)).2.1 (2 : Int) = true) (some ((bif ieq (bestX (List.take (20 : Nat) x0)).2.1 (2 : Int) then true else false, ()) : Bool × Unit)) else gd (isM x0 (16 : Int) = true) (gd (small (turnF x0 x1 x2)) (gd (isM x0 (16 : Int) = true) (gd (small (turnF x0 x1 x2)) (gd (ieq (sumX (List.take (20 : Nat) x0)).2.1 (0 : Int) = true → ieq (sumX (List.take (20 : Nat) x0)).2.1 (0 : Int) = true) (gd (ieq (sumX (List.take (20 : Nat) x0)).2.1 (0 : Int) = true → ieq (sumX (List.take (20 : Nat) x0)).2.1 (0 : Int) = true) (gd ((bif ieq (sumX (List.take (20 : Nat) x0)).2.1 (0 : Int) then ieq (balX (List.take (20 : Nat) x0)).2.1 (0 : Int) else false) = true → (bif ieq (sumX (List.take (20 : Nat) x0)).2.1 (0 : Int) then ieq (balX (List.take (20 : Nat) x0)).2.1 (0 : Int) else false) = true) (gd ((bif ieq (sumX (List.take (20 : Nat) x0)).2.1 (0 : Int) then ieq (balX (List.take (20 : Nat) x0)).2.1 (0 : Int) else false) = true → (bif ieq (sumX (List.take (20 : Nat) x0)).2.1 (0 : Int) then ieq (balX (List.take (20 : Nat) x0)).2.1 (0 : Int) else false) = true) (gd (g6_c0 x0 x1 x2 = true → g6_c0 x0 x1 x2 = true) (gd (g6_c0 x0 x1 x2 = true → g6_c0 x0 x1 x2 = true) (gd ((bif g6_c0 x0 x1 x2 then ieq (sumX (turnF x0 x1 x2)).2.1 (0 : Int) else false) = true → (bif g6_c0 x0 x1 x2 then ieq (sumX (turnF x0 x1 x2)).2.1 (0 : Int) else false) = true ∧ (bif g6_c0 x0 x1 x2 then ieq (sumX (turnF x0 x1 x2)).2.1 (0 : Int) else false) = true) (gd ((bif g6_c0 x0 x1 x2 then ieq (sumX (turnF x0 x1 x2)).2.1 (0 : Int) else false) = true → (bif g6_c0 x0 x1 x2 then ieq (sumX (turnF x0 x1 x2)).2.1 (0 : Int) else false) = true ∧ (bif g6_c0 x0 x1 x2 then ieq (sumX (turnF x0 x1 x2)).2.1 (0 : Int) else false) = true) (gd ((bif g6_c0 x0 x1 x2 then ieq (sumX (turnF x0 x1 x2)).2.1 (0 : Int) else false) = true → (bif g6_c0 x0 x1 x2 then ieq (sumX (turnF x0 x1 x2)).2.1 (0 : Int) else false) = true) (gd (g6_c1 x0 x1 x2 = true → g6_c1 x0 x1 x2 = true ∧ g6_c1 x0 x1 x2 = true) (gd (g6_c1 x0 x1 x2 = true → g6_c1 x0 x1 x2 = true) (gd ((bif g6_c1 x0 x1 x2 then ile (sumX (List.take (20 : Nat) x0)).1 (bestX (List.take (20 : Nat) x0)).1 else false) = true → (bif g6_c1 x0 x1 x2 then ile (sumX (List.take (20 : Nat) x0)).1 (bestX (List.take (20 : Nat) x0)).1 else false) = true ∧ (bif g6_c1 x0 x1 x2 then ile (sumX (List.take (20 : Nat) x0)).1 (bestX (List.take (20 : Nat) x0)).1 else false) = true) (gd ((bif g6_c1 x0 x1 x2 then ile (sumX (List.take (20 : Nat) x0)).1 (bestX (List.take (20 : Nat) x0)).1 else false) = true → (bif g6_c1 x0 x1 x2 then ile (sumX (List.take (20 : Nat) x0)).1 (bestX (List.take (20 : Nat) x0)).1 else false) = true) (gd (g6_c2 x0 x1 x2 = true → g6_c2 x0 x1 x2 = true ∧ g6_c2 x0 x1 x2 = true) (gd (g6_c2 x0 x1 x2 = true → g6_c2 x0 x1 x2 = true) (gd ((bif g6_c2 x0 x1 x2 then ieq (bestX (turnF x0 x1 x2)).1 (bestX (List.take (20 : Nat) x0)).1 else false) = true → (bif g6_c2 x0 x1 x2 then ieq (bestX (turnF x0 x1 x2)).1 (bestX (List.take (20 : Nat) x0)).1 else false) = true) (gd (((bif g6_c2 x0 x1 x2 then ieq (bestX (turnF x0 x1 x2)).1 (bestX (List.take (20 : Nat) x0)).1 else false) && ((bif g6_c2 x0 x1 x2 then ieq (bestX (turnF x0 x1 x2)).1 (bestX (List.take (20 : Nat) x0)).1 else false) && !!(balX (List.take (20 : Nat) x0)).1)) = true → g6_c3 x0 x1 x2 = true ∧ g6_c3 x0 x1 x2 = true) (gd (((bif g6_c2 x0 x1 x2 then ieq (bestX (turnF x0 x1 x2)).1 (bestX (List.take (20 : Nat) x0)).1 else false) && ((bif g6_c2 x0 x1 x2 then ieq (bestX (turnF x0 x1 x2)).1 (bestX (List.take (20 : Nat) x0)).1 else false) && !!(balX (List.take (20 : Nat) x0)).1)) = true → g6_c3 x0 x1 x2 = true ∧ g6_c3 x0 x1 x2 = true) (gd (((bif g6_c2 x0 x1 x2 then ieq (bestX (turnF x0 x1 x2)).1 (bestX (List.take (20 : Nat) x0)).1 else false) && ((bif g6_c2 x0 x1 x2 then ieq (bestX (turnF x0 x1 x2)).1 (bestX (List.take (20 : Nat) x0)).1 else false) && !!(balX (List.take (20 : Nat) x0)).1)) = true → g6_c3 x0 x1 x2 = true ∧ g6_c3 x0 x1 x2 = true) (gd (((bif g6_c2 x0 x1 x2 then ieq (bestX (turnF x0 x1 x2)).1 (bestX (List.take (20 : Nat) x0)).1 else false) && ((bif g6_c2 x0 x1 x2 then ieq (bestX (turnF x0 x1 x2)).1 (bestX (List.take (20 : Nat) x0)).1 else false) && !!(balX (List.take (20 : Nat) x0)).1)) = true → g6_c3 x0 x1 x2 = true ∧ g6_c3 x0 x1 x2 = true) (gd ((bif g6_c2 x0 x1 x2 then ieq (bestX (turnF x0 x1 x2)).1 (bestX (List.take (20 : Nat) x0)).1 else false) = true → (bif g6_c2 x0 x1 x2 then ieq (bestX (turnF x0 x1 x2)).1 (bestX (List.take (20 : Nat) x0)).1 else false) = true ∧ (bif g6_c2 x0 x1 x2 then ieq (bestX (turnF x0 x1 x2)).1 (bestX (List.take (20 : Nat) x0)).1 else false) = true ∧ ((!(balX (List.take (20 : Nat) x0)).1) = false → g6_c3 x0 x1 x2 = true)) (gd ((bif g6_c2 x0 x1 x2 then ieq (bestX (turnF x0 x1 x2)).1 (bestX (List.take (20 : Nat) x0)).1 else false) = true → (bif g6_c2 x0 x1 x2 then ieq (bestX (turnF x0 x1 x2)).1 (bestX (List.take (20 : Nat) x0)).1 else false) = true) (gd ((bif bif g6_c2 x0 x1 x2 then ieq (bestX (turnF x0 x1 x2)).1 (bestX (List.take (20 : Nat) x0)).1 else false then bif !(balX (List.take (20 : Nat) x0)).1 then true else g6_c4 x0 else false) = true → (bif bif g6_c2 x0 x1 x2 then ieq (bestX (turnF x0 x1 x2)).1 (bestX (List.take (20 : Nat) x0)).1 else false then bif !(balX (List.take (20 : Nat) x0)).1 then true else g6_c4 x0 else false) = true ∧ (bif bif g6_c2 x0 x1 x2 then ieq (bestX (turnF x0 x1 x2)).1 (bestX (List.take (20 : Nat) x0)).1 else false then bif !(balX (List.take (20 : Nat) x0)).1 then true else g6_c4 x0 else false) = true) (gd ((bif bif g6_c2 x0 x1 x2 then ieq (bestX (turnF x0 x1 x2)).1 (bestX (List.take (20 : Nat) x0)).1 else false then bif !(balX (List.take (20 : Nat) x0)).1 then true else g6_c4 x0 else false) = true → (bif bif g6_c2 x0 x1 x2 then ieq (bestX (turnF x0 x1 x2)).1 (bestX (List.take (20 : Nat) x0)).1 else false then bif !(balX (List.take (20 : Nat) x0)).1 then true else g6_c4 x0 else false) = true ∧ (2 : Int) ≠ (0 : Int)) (gd ((bif bif g6_c2 x0 x1 x2 then ieq (bestX (turnF x0 x1 x2)).1 (bestX (List.take (20 : Nat) x0)).1 else false then bif !(balX (List.take (20 : Nat) x0)).1 then true else g6_c4 x0 else false) = true → (bif bif g6_c2 x0 x1 x2 then ieq (bestX (turnF x0 x1 x2)).1 (bestX (List.take (20 : Nat) x0)).1 else false then bif !(balX (List.take (20 : Nat) x0)).1 then true else g6_c4 x0 else false) = true) (gd ((bif bif g6_c2 x0 x1 x2 then ieq (bestX (turnF x0 x1 x2)).1 (bestX (List.take (20 : Nat) x0)).1 else false then bif !(balX (List.take (20 : Nat) x0)).1 then true else g6_c4 x0 else false) = true → (bif bif g6_c2 x0 x1 x2 then ieq (bestX (turnF x0 x1 x2)).1 (bestX (List.take (20 : Nat) x0)).1 else false then bif !(balX (List.take (20 : Nat) x0)).1 then true else g6_c4 x0 else false) = true) (gd (g6_c5 x0 x1 x2 = true → g6_c5 x0 x1 x2 = true) (some ((bif g6_c5 x0 x1 x2 then true else false, ()) : Bool × Unit))))))))))))))))))))))))))))))))))))))
noncomputable def g6_sh : List LSh := ([] : List LSh)



end Go.Signs

set_option linter.unusedVariables false
set_option linter.unusedSimpArgs false
namespace Go.Signs
open Go Go.Ab Go.Proofs

theorem iand_mod {c : Int} {n : Nat} (hn : n ≤ 16) : iand .i64 c ((2 ^ n - 1 : Nat) : Int) = (modP c n : Int) := by
  have hp := pow_le16 hn
  have h1 : 1 ≤ 2 ^ n := Nat.one_le_two_pow
  show IntKind.i64.wrap (BitVec.ofInt 64 c &&& BitVec.ofInt 64 ((2 ^ n - 1 : Nat) : Int)).toNat = _
  rw [BitVec.toNat_and, bv_nat (by omega), BitVec.toNat_ofInt, Nat.and_two_pow_sub_one_eq_mod]
  have e : (c % ((2 ^ 64 : Nat) : Int)).toNat % 2 ^ n = modP c n := by
    unfold modP
    have hd : ((2 ^ n : Nat) : Int) ∣ ((2 ^ 64 : Nat) : Int) := Int.natCast_dvd_natCast.2 (Nat.pow_dvd_pow 2 (by omega))
    have h2 := Int.emod_emod_of_dvd c hd
    have h3 : 0 ≤ c % ((2 ^ 64 : Nat) : Int) := Int.emod_nonneg _ (by decide)
    rw [← h2]
    obtain ⟨y, hy⟩ : ∃ y : Nat, c % ((2 ^ 64 : Nat) : Int) = y := ⟨_, (Int.toNat_of_nonneg h3).symm⟩
    rw [hy, Int.toNat_natCast, ← Int.natCast_emod, Int.toNat_natCast]
  rw [e]
  have : modP c n < 2 ^ n := by rw [← e]; exact Nat.mod_lt _ (by omega)
  exact wrap_nat (by omega)
theorem modP_lt {c : Int} {n : Nat} : modP c n < 2 ^ n := by
  have h1 : 1 ≤ 2 ^ n := Nat.one_le_two_pow
  have h3 : 0 ≤ c % ((2 ^ n : Nat) : Int) := Int.emod_nonneg _ (by omega)
  have h4 : c % ((2 ^ n : Nat) : Int) < ((2 ^ n : Nat) : Int) := Int.emod_lt_of_pos _ (by omega)
  unfold modP; omega
theorem rbit_eq {r : Int} {i : Nat} (hi : i ≤ 16) : ieq (iand .i64 (ishr .i64 r i) 1) 1 = rbit r i := by
  have h1 : ishr .i64 r (i : Int) = r / ((2 ^ i : Nat) : Int) := by
    show Int.fdiv r (2 ^ (min (i : Int).toNat 64)) = _
    rw [Int.toNat_natCast, Nat.min_eq_left (by omega)]
    have : (2 : Int) ^ i = ((2 ^ i : Nat) : Int) := by rw [Int.natCast_pow]; rfl
    rw [this, Int.fdiv_eq_ediv_of_nonneg _ (Int.natCast_nonneg _)]
  have h2 := iand_mod (c := ishr .i64 r (i : Int)) (n := 1) (by omega)
  have h3 : ((2 ^ 1 - 1 : Nat) : Int) = 1 := rfl
  rw [h3] at h2
  rw [h2, h1]
  unfold rbit modP
  rw [ieq_d]
  have h4 : ((2 ^ 1 : Nat) : Int) = 2 := rfl
  rw [h4]
  generalize r / ((2 ^ i : Nat) : Int) = x
  exact decide_eq_decide.2 (by omega)

section
variable {l : List Int} {r c : Int} {m : Int}
theorem turn_len : (turnF l r c).length = l.length := by simp [turnF]
theorem turn_lt (h : isM l m = true) {i : Nat} (hi : i < l.length) : turnN l r c i < 2 ^ l.length := by
  have h1 := xor_lt (nx_get h hi).2 (modP_lt (c := c) (n := l.length))
  have h2 : 1 ≤ 2 ^ l.length := Nat.one_le_two_pow
  unfold turnN
  split
  · exact xor_lt h1 (by omega)
  · exact h1
theorem turn_at {i : Nat} (hi : i < l.length) : (turnF l r c).getD i 0 = (turnN l r c i : Int) := by
  rw [gd_at (by rw [turn_len]; exact hi)]
  simp [turnF]
theorem turn_nx {i : Nat} (hi : i < l.length) : nx (turnF l r c) i = turnN l r c i := by
  unfold nx
  rw [turn_at hi, Int.toNat_natCast]
theorem turn_isM (h : isM l m = true) : isM (turnF l r c) m = true := by
  obtain ⟨h1, h2, _⟩ := isM_spec h
  unfold isM
  simp only [Bool.and_eq_true, decide_eq_true_eq, List.all_eq_true, inM_d, turn_len, Int.toNat_natCast]
  refine ⟨⟨by omega, h2⟩, fun x hx => ?_⟩
  obtain ⟨i, hi, rfl⟩ := List.mem_map.1 hx
  have := turn_lt (r := r) (c := c) h (List.mem_range.1 hi)
  have h5 : ((2 ^ l.length : Nat) : Int) = (2 : Int) ^ l.length := by rw [Int.natCast_pow]; rfl
  omega
theorem turn_ent {i j : Nat} (hi : i < l.length) (hj : j < l.length) : ent (turnF l r c) i j = ent l i j * sg ((modP c l.length).testBit j) * sg (rbit r i) := by
  unfold ent
  rw [turn_nx hi]
  unfold turnN
  cases hr : rbit r i with
  | true =>
    rw [if_pos rfl, Nat.testBit_xor, Nat.testBit_xor, Nat.testBit_two_pow_sub_one, decide_eq_true hj, sg_xor, sg_xor]
  | false =>
    rw [if_neg (by simp), Nat.testBit_xor, sg_xor]
    exact (Int.mul_one _).symm

theorem absI_sg {b : Bool} {x : Int} : absI (sg b * x) = absI x := by
  unfold absI sg
  cases b
  · simp
  · simp only [if_true]
    split <;> split <;> omega
theorem turn_abs (t : Nat) : absSum (ent (turnF l r c)) l.length t = absSum (ent l) l.length (t ^^^ modP c l.length) := by
  unfold absSum
  refine sumN_congr fun i hi => ?_
  have : sumN (fun j => ent (turnF l r c) i j * sg (t.testBit j)) l.length = sg (rbit r i) * sumN (fun j => ent l i j * sg ((t ^^^ modP c l.length).testBit j)) l.length := by
    rw [← sumN_mul]
    refine sumN_congr fun j hj => ?_
    rw [turn_ent hi hj, Nat.testBit_xor, sg_xor]
    generalize ent l i j = a
    generalize sg ((modP c l.length).testBit j) = b
    generalize sg (rbit r i) = d
    generalize sg (t.testBit j) = e
    rw [Int.mul_comm (a * b) d, Int.mul_assoc, Int.mul_assoc a b e, Int.mul_comm b e]
  rw [this, absI_sg]
theorem best_eq (h : isM l 12 = true) : bestF l = maxN (absSum (ent l) l.length) (2 ^ l.length) := by
  obtain ⟨hM, h12⟩ := isM_12 h
  unfold bestF
  have : ∀ n, n ≤ 2 ^ l.length → maxN (fun t => sumG absI l t l.length) n = maxN (absSum (ent l) l.length) n := by
    intro n
    induction n with
    | zero => intro _; rfl
    | succ n ih => intro hn; rw [maxN, maxN, ih (by omega), best_ent hM (by omega)]
  exact this _ (Nat.le_refl _)
theorem best_turn (h : isM l 12 = true) : bestF (turnF l r c) = bestF l := by
  have h' := turn_isM (r := r) (c := c) h
  rw [best_eq h, best_eq h', turn_len]
  refine Int.le_antisymm (maxN_le maxN_pos fun t ht => ?_) (maxN_le maxN_pos fun t ht => ?_)
  · rw [turn_abs]
    exact le_maxN (xor_lt ht modP_lt)
  · have := le_maxN (f := absSum (ent (turnF l r c)) l.length) (xor_lt ht (modP_lt (c := c) (n := l.length)))
    rw [turn_abs, Nat.xor_assoc, Nat.xor_self, Nat.xor_zero] at this
    exact this

theorem sum_eq {l : List Int} (h : isM l 16 = true) : sumG idI l 0 l.length = sumN (fun i => sumN (ent l i) l.length) l.length := by
  rw [sumG_sumN]
  refine sumN_congr fun i hi => ?_
  rw [row_ent h hi (Nat.two_pow_pos _)]
  exact sumN_congr fun j _ => by rw [Nat.zero_testBit]; exact Int.mul_one _
theorem abs_zero {e : Nat → Nat → Int} {n : Nat} : absSum e n 0 = sumN (fun i => absI (sumN (e i) n)) n := by
  unfold absSum
  refine sumN_congr fun i _ => ?_
  congr 1
  exact sumN_congr fun j _ => by rw [Nat.zero_testBit]; exact Int.mul_one _
theorem sum_le_best {l : List Int} (h : isM l 12 = true) : sumG idI l 0 l.length ≤ bestF l := by
  rw [best_eq h, sum_eq (isM_12 h).1]
  refine Int.le_trans ?_ (le_maxN (t := 0) (Nat.two_pow_pos _))
  rw [abs_zero]
  exact sumN_le fun i _ => le_abs.1
theorem maxN_att {f : Nat → Int} (hf : ∀ t, 0 ≤ f t) : ∀ {n : Nat}, 0 < n → ∃ t, t < n ∧ maxN f n = f t
  | 1, _ => ⟨0, by omega, by have := hf 0; rw [maxN, maxN]; unfold imax; split <;> omega⟩
  | n + 2, _ => by
    obtain ⟨t, ht, h⟩ := maxN_att hf (n := n + 1) (by omega)
    rw [maxN]
    by_cases hl : maxN f (n + 1) < f (n + 1)
    · exact ⟨n + 1, by omega, by unfold imax; rw [if_pos hl]⟩
    · exact ⟨t, by omega, by unfold imax; rw [if_neg hl, h]⟩
theorem absSum_pos {e : Nat → Nat → Int} {n t : Nat} : 0 ≤ absSum e n t := by
  have := sumN_le (n := n) (f := fun _ => 0) (g := fun i => absI (sumN (fun j => e i j * sg (t.testBit j)) n)) fun i _ => le_abs.2.2
  rwa [sumN_zero] at this
theorem best_att {l : List Int} (h : isM l 12 = true) : ∃ t, bestF l = absSum (ent l) l.length t := by
  obtain ⟨t, _, ht⟩ := maxN_att (f := absSum (ent l) l.length) (fun _ => absSum_pos) (Nat.two_pow_pos l.length)
  exact ⟨t, by rw [best_eq h, ht]⟩
theorem best_att2 {l : List Int} (h : isM l 12 = true) : ∃ s, bestF l = absSum (fun i j => ent l j i) l.length s := by
  obtain ⟨t, _, ht⟩ := maxN_att (f := absSum (fun i j => ent l j i) l.length) (fun _ => absSum_pos) (Nat.two_pow_pos l.length)
  exact ⟨t, by rw [best_eq h, ← max_dual, ht]⟩
theorem ent_bd {l : List Int} {i j : Nat} : -1 ≤ ent l i j ∧ ent l i j ≤ 1 := sg_bd
theorem best_bd {l : List Int} (h : isM l 12 = true) : 0 ≤ bestF l ∧ bestF l ≤ l.length * l.length := by
  obtain ⟨t, ht⟩ := best_att h
  refine ⟨by rw [ht]; exact absSum_pos, ?_⟩
  rw [ht]
  refine (sumN_bd (c := l.length) fun i _ => ?_).2
  have := sumN_bd (f := fun j => ent l i j * sg (t.testBit j)) (c := 1) (n := l.length) fun j _ => sg_mul_bd
  obtain ⟨a1, a2, a3⟩ := le_abs (x := sumN (fun j => ent l i j * sg (t.testBit j)) l.length)
  have a4 : absI (sumN (fun j => ent l i j * sg (t.testBit j)) l.length) ≤ l.length := by unfold absI; split <;> omega
  omega

/-! ### Remainders by 2 -/
theorem sumN_mod {f g : Nat → Int} : ∀ {n : Nat}, (∀ i, i < n → f i % 2 = g i % 2) → sumN f n % 2 = sumN g n % 2
  | 0, _ => rfl
  | n + 1, h => by
    have h1 := sumN_mod (n := n) fun i hi => h i (by omega)
    have h2 := h n (by omega)
    rw [sumN, sumN]; omega
theorem best_mod {l : List Int} (h : isM l 12 = true) : (bestF l - sumG idI l 0 l.length) % 2 = 0 := by
  obtain ⟨t, ht⟩ := best_att h
  have h1 : bestF l % 2 = sumN (fun i => sumN (ent l i) l.length) l.length % 2 := by
    rw [ht]
    refine sumN_mod fun i _ => ?_
    have h2 : absI (sumN (fun j => ent l i j * sg (t.testBit j)) l.length) % 2 = sumN (fun j => ent l i j * sg (t.testBit j)) l.length % 2 := by unfold absI; split <;> omega
    rw [h2]
    refine sumN_mod fun j _ => ?_
    unfold ent
    cases (nx l i).testBit j <;> cases t.testBit j <;> rfl
  rw [← sum_eq (isM_12 h).1] at h1
  omega

/-! ### Rows that are balanced -/
theorem sq_pos {x : Int} : 0 ≤ x * x := by
  rcases Int.le_total 0 x with h | h
  · exact Int.mul_nonneg h h
  · have := Int.mul_nonneg (a := -x) (b := -x) (by omega) (by omega)
    rwa [Int.neg_mul_neg] at this
theorem sq_dev {f : Nat → Int} {a : Int} : ∀ {n : Nat}, 0 ≤ sumN (fun i => f i * f i) n - 2 * (a * sumN f n) + n * (a * a)
  | 0 => by simp [sumN]
  | n + 1 => by
    have h := sq_dev (f := f) (a := a) (n := n)
    have h2 : 0 ≤ (f n - a) * (f n - a) := sq_pos
    have e : (f n - a) * (f n - a) = f n * f n - 2 * (a * f n) + a * a := by grind
    have e2 : ((n + 1 : Nat) : Int) * (a * a) = n * (a * a) + a * a := by grind
    rw [sumN, sumN, Int.mul_add, e2]
    omega
theorem cauchy {f : Nat → Int} : ∀ {n : Nat}, sumN f n * sumN f n ≤ n * sumN (fun i => f i * f i) n
  | 0 => by simp [sumN]
  | n + 1 => by
    have h := cauchy (f := f) (n := n)
    have h2 := sq_dev (f := f) (a := f n) (n := n)
    rw [sumN, sumN]
    have e : (sumN f n + f n) * (sumN f n + f n) = sumN f n * sumN f n + 2 * (f n * sumN f n) + f n * f n := by grind
    have e2 : ((n + 1 : Nat) : Int) * (sumN (fun i => f i * f i) n + f n * f n) = n * sumN (fun i => f i * f i) n + sumN (fun i => f i * f i) n + (n * (f n * f n) + f n * f n) := by grind
    rw [e, e2]
    omega
theorem sumN_sq {f : Nat → Int} {n : Nat} : sumN f n * sumN f n = sumN (fun i => sumN (fun k => f i * f k) n) n := by
  have : sumN (fun i => sumN (fun k => f i * f k) n) n = sumN (fun i => sumN f n * f i) n := sumN_congr fun i _ => by rw [sumN_mul, Int.mul_comm]
  rw [this, sumN_mul]
/-- The product of two rows. -/
def dotR (l : List Int) (i k : Nat) : Int := sumN (fun j => ent l i j * ent l k j) l.length
theorem dot_pop {l : List Int} (h : isM l 16 = true) {i k : Nat} (hi : i < l.length) (hk : k < l.length) : dotR l i k = l.length - 2 * (popN (nx l i ^^^ nx l k) : Int) := by
  rw [← sum_pop (len16 (by omega) h).1 (xor_lt (nx_get h hi).2 (nx_get h hk).2)]
  exact sumN_congr fun j _ => by rw [Nat.testBit_xor, sg_xor]; rfl
theorem bal_dot {l : List Int} (h : isM l 16 = true) : balF l = true ↔ ∀ i k, i < l.length → k < l.length → i ≠ k → dotR l i k = 0 := by
  unfold balF
  simp only [List.all_eq_true, List.mem_range, decide_eq_true_eq]
  constructor
  · intro hb i k hi hk hne
    rw [dot_pop h hi hk]
    rcases Nat.lt_or_ge k i with hlt | hge
    · have := hb i hi k hlt; omega
    · have := hb k hk i (by omega)
      rw [Nat.xor_comm] at this
      omega
  · intro hb i hi k hk
    have := hb i k hi (by omega) (by omega)
    rw [dot_pop h hi (by omega)] at this
    omega
theorem ent_sq {l : List Int} {i j : Nat} : ent l i j * ent l i j = 1 := sg_sq
theorem sumN_const {c : Int} : ∀ {n : Nat}, sumN (fun _ => c) n = n * c
  | 0 => by simp [sumN]
  | n + 1 => by rw [sumN, sumN_const]; grind
theorem dot_self {l : List Int} {i : Nat} : dotR l i i = l.length := by
  unfold dotR
  rw [sumN_congr (g := fun _ => 1) fun j _ => ent_sq, sumN_const, Int.mul_one]
/-- Only one term is not 0. -/
theorem sumN_one {f : Nat → Int} {i : Nat} : ∀ {n : Nat}, i < n → (∀ k, k < n → k ≠ i → f k = 0) → sumN f n = f i
  | n + 1, hi, h => by
    rw [sumN]
    by_cases hn : i = n
    · subst hn
      rw [sumN_congr (g := fun _ => 0) fun k hk => h k (by omega) (by omega), sumN_zero, Int.zero_add]
    · rw [sumN_one (by omega) fun k hk hne => h k (by omega) hne, h n (by omega) (fun e => hn e.symm), Int.add_zero]
theorem bal_best {l : List Int} (h : isM l 12 = true) (hb : balF l = true) : bestF l * bestF l ≤ l.length * l.length * l.length := by
  obtain ⟨hM, h12⟩ := isM_12 h
  obtain ⟨s, hs⟩ := best_att2 h
  have hd := (bal_dot hM).1 hb
  have h1 := cauchy (f := fun j => absI (sumN (fun i => ent l i j * sg (s.testBit i)) l.length)) (n := l.length)
  have h2 : sumN (fun j => absI (sumN (fun i => ent l i j * sg (s.testBit i)) l.length) * absI (sumN (fun i => ent l i j * sg (s.testBit i)) l.length)) l.length = l.length * l.length := by
    have e1 : ∀ x : Int, absI x * absI x = x * x := fun x => by unfold absI; split <;> grind
    have e2 : sumN (fun j => absI (sumN (fun i => ent l i j * sg (s.testBit i)) l.length) * absI (sumN (fun i => ent l i j * sg (s.testBit i)) l.length)) l.length =
        sumN (fun i => sumN (fun k => sg (s.testBit i) * sg (s.testBit k) * dotR l i k) l.length) l.length := by
      have e3 : sumN (fun j => absI (sumN (fun i => ent l i j * sg (s.testBit i)) l.length) * absI (sumN (fun i => ent l i j * sg (s.testBit i)) l.length)) l.length = sumN (fun j => sumN (fun i => sumN (fun k => (ent l i j * sg (s.testBit i)) * (ent l k j * sg (s.testBit k))) l.length) l.length) l.length :=
        sumN_congr fun j _ => by rw [e1, sumN_sq]
      rw [e3, sumN_swap]
      refine sumN_congr fun i _ => ?_
      rw [sumN_swap]
      refine sumN_congr fun k _ => ?_
      unfold dotR
      rw [← sumN_mul]
      refine sumN_congr fun j _ => ?_
      grind
    rw [e2]
    have e4 : ∀ i, i < l.length → sumN (fun k => sg (s.testBit i) * sg (s.testBit k) * dotR l i k) l.length = l.length := fun i hi => by
      rw [sumN_one hi fun k hk hne => by rw [hd i k hi hk (fun e => hne e.symm), Int.mul_zero], sg_sq, dot_self, Int.one_mul]
    rw [sumN_congr e4, sumN_const]
  rw [h2] at h1
  have h3 : bestF l = sumN (fun j => absI (sumN (fun i => ent l i j * sg (s.testBit i)) l.length)) l.length := hs
  rw [h3, Int.mul_assoc]
  exact h1
end

end Go.Signs

set_option linter.unusedVariables false
set_option linter.unusedSimpArgs false
namespace Go.Signs
open Go Go.Ab Go.Proofs

theorem turn_take {l : List Int} {r c : Int} {i : Nat} (hi : i < l.length) : (turnF l r c).take (i + 1) = (turnF l r c).take i ++ [(turnN l r c i : Int)] := by
  have hl : i < (turnF l r c).length := by rw [turn_len]; exact hi
  rw [List.take_succ_eq_append_getElem hl]
  congr 2
  simp [turnF]

theorem goal34 : con34.goal Try.prog (spOf []) g34_sh [] lm30 := by
  have e : (∀ (l : List Int) (r c : Int), isM l 16 = true → g34 l r c = some (turnF l r c, ())) = con34.goal Try.prog (spOf []) g34_sh [] lm30 := by kernel_rfl
  rw [← e]
  intro l r c h
  have h16 := len16 (by omega) h
  have hp := pow16 (by omega) h
  have h1 : 1 ≤ 2 ^ l.length := Nat.one_le_two_pow
  have hall : wr .i64 (ishl .i64 1 (l.length : Int) - 1) = ((2 ^ l.length - 1 : Nat) : Int) := by
    rw [ishl_one h16.1, wr_id (by omega)]; omega
  have hc : iand .i64 c ((2 ^ l.length - 1 : Nat) : Int) = (modP c l.length : Int) := iand_mod h16.1
  have hcl := modP_lt (c := c) (n := l.length)
  unfold g34
  rw [gd_pos (by omega), gd_pos rfl]
  simp only [hall, hc]
  refine whileO_nat (st := fun i => ((((i : Nat) : Int), (turnF l r c).take i, ()) : Row)) (lo := 0) (hi := l.length) (by omega) (fun i _ hi => ?_) ?_
  · simp only
    obtain ⟨a1, a2⟩ := nx_get h hi
    have hx := xor_lt a2 hcl
    have hl : ((turnF l r c).take i).length = i := by rw [List.length_take, turn_len]; omega
    have ht : List.take i ((turnF l r c).take i) = (turnF l r c).take i := by rw [List.take_take, Nat.min_self]
    rw [rbit_eq (by omega), Int.toNat_natCast, a1, ixor_nat (by omega) (by omega), ixor_nat (by omega) (by omega), turn_take hi]
    rw [cond_t (ilt_iff.2 (by omega)), gd_pos (by omega), gd_pos (by omega)]
    simp only [hl, ht, Nat.le_refl, gd_true, List.length_append, List.length_singleton]
    unfold turnN
    cases hb : rbit r i with
    | true =>
      rw [cond_t rfl, gd_pos (by omega), if_pos rfl, cast1 (by omega)]
    | false =>
      rw [cond_f rfl, gd_pos (by omega), if_neg (by simp), cast1 (by omega)]
  · simp only
    have hl : (turnF l r c).take l.length = turnF l r c := by rw [List.take_of_length_le (by rw [turn_len]; omega)]
    rw [cond_f (ilt_false.2 (by omega)), gd_pos (by omega), take_all, hl]
set_option maxRecDepth 100000 in
theorem ok34 : con34.Ok Try.prog := Con.of_goal mixed okN con34 goal34

theorem goal6 : con6.goal Try.prog (spOf [con18, con27, con26, con30, con23, con24, con34]) g6_sh [] lm30 := by
  have e : (∀ (l : List Int) (r c : Int), small l → g6 l r c = some (true, ())) = con6.goal Try.prog (spOf [con18, con27, con26, con30, con23, con24, con34]) g6_sh [] lm30 := by kernel_rfl
  rw [← e]
  intro l r c hs
  have ta : small (l.take 20) := small16 (by rw [List.length_take]; omega)
  have i00 : ieq 0 0 = true := rfl
  have i22 : ieq 2 2 = true := rfl
  cases h : isM l 12 with
  | false =>
    have hB : bestX (l.take 20) = (0, 2, ()) := by unfold bestX; rw [isM_take (by omega), h]; rfl
    unfold g6
    rw [gd_pos ta, gd_pos ta, gd_pos ta, hB, h]
    simp [gd_true, ieq_d]
  | true =>
    obtain ⟨hM, h12⟩ := isM_12 h
    have h16 := len16 (by omega) hM
    have e1 : l.take 20 = l := List.take_of_length_le (by omega)
    have h' := turn_isM (r := r) (c := c) h
    have hM' := turn_isM (r := r) (c := c) hM
    have hB : bestX (l.take 20) = (bestF l, 0, ()) := by rw [e1, bestX, if_pos h]
    have hS : sumX (l.take 20) = (sumG idI l 0 l.length, 0, ()) := by rw [e1, sumX, if_pos hM]
    have hK : balX (l.take 20) = (balF l, 0, ()) := by rw [e1, balX, if_pos hM]
    have hB' : bestX (turnF l r c) = (bestF l, 0, ()) := by rw [bestX, if_pos h', best_turn h]
    have hS' : sumX (turnF l r c) = (sumG idI (turnF l r c) 0 l.length, 0, ()) := by rw [sumX, if_pos hM', turn_len]
    have hst : small (turnF l r c) := small16 (by rw [turn_len]; omega)
    have b1 := best_bd h
    have s1 := sum_le_best h
    have s2 : sumG idI (turnF l r c) 0 l.length ≤ bestF l := by
      have := sum_le_best h'
      rwa [turn_len, best_turn h] at this
    have m1 := best_mod h
    have hnn : (l.length : Int) * l.length ≤ 144 := by
      have : l.length * l.length ≤ 12 * 12 := Nat.mul_le_mul h12 h12
      have e2 : (l.length : Int) * (l.length : Int) = ((l.length * l.length : Nat) : Int) := by simp
      omega
    have hnnn : 0 ≤ (l.length : Int) * l.length * l.length ∧ (l.length : Int) * l.length * l.length ≤ 1728 := by
      have : l.length * l.length * l.length ≤ 12 * 12 * 12 := Nat.mul_le_mul (Nat.mul_le_mul h12 h12) h12
      have e2 : (l.length : Int) * (l.length : Int) * (l.length : Int) = ((l.length * l.length * l.length : Nat) : Int) := by simp
      omega
    have hbb : 0 ≤ bestF l * bestF l ∧ bestF l * bestF l ≤ 144 * 144 := mul_bd (c := 144) (by omega) (by omega)
    have sb := sumG_bd id_bd hM (t := 0) (Nat.two_pow_pos _) l.length (Nat.le_refl _)
    have w1 : wr .i64 ((l.length : Int) * l.length) = (l.length : Int) * l.length := wr_id (by have := hnnn; omega)
    have w2 : wr .i64 ((l.length : Int) * l.length * l.length) = (l.length : Int) * l.length * l.length := wr_id (by omega)
    have w3 : wr .i64 (bestF l * bestF l) = bestF l * bestF l := wr_id (by omega)
    have w4 : wr .i64 (bestF l - sumG idI l 0 l.length) = bestF l - sumG idI l 0 l.length := wr_id (by omega)
    have t1 : Int.tmod (bestF l - sumG idI l 0 l.length) 2 = 0 := by
      rw [Int.tmod_eq_emod_of_nonneg (by omega)]; exact m1
    have k1 : ile (bestF l) ((l.length : Int) * l.length) = true := ile_iff.2 b1.2
    have k2 : ile (sumG idI l 0 l.length) (bestF l) = true := ile_iff.2 s1
    have k3 : ile (sumG idI (turnF l r c) 0 l.length) (bestF l) = true := ile_iff.2 s2
    have k4 : ieq (bestF l) (bestF l) = true := ieq_iff.2 rfl
    have k5 : balF l = true → ile (bestF l * bestF l) ((l.length : Int) * l.length * l.length) = true := fun hb => ile_iff.2 (bal_best h hb)
    unfold g6 g6_c5 g6_c4 g6_c3 g6_c2 g6_c1 g6_c0
    rw [gd_pos ta, gd_pos ta, gd_pos ta]
    simp only [hB, hS, hK, hB', hS', h, hM, hst, w1, w2, w3, w4, t1, k1, k2, k3, k4, i00, hs]
    cases hb : balF l with
    | true => simp [gd_true, k5 hb]
    | false => simp [gd_true]
set_option maxRecDepth 100000 in
theorem ok6 : con6.Ok Try.prog := Con.of_goal mixed (okC ok18 (okC ok27 (okC ok26 (okC ok30 (okC ok23 (okC ok24 (okC ok34 okN))))))) con6 goal6

end Go.Signs

set_option linter.unusedVariables false
set_option linter.unusedSimpArgs false
namespace Go.Signs
open Go Go.Ab Go.Proofs

abbrev A4 : Ty := .prod I64 (.prod I64 (.prod I64 (.prod I64 .unit)))
abbrev Qt : Ty := .prod I64 (.prod A4 .unit)
abbrev A4D := Int × Int × Int × Int × Unit
abbrev QtD := Int × A4D × Unit
def is135 (m : Int) : Bool := [1, 3, 5].contains m
/-- A sequence of m signs. -/
def seqB (m s : Int) : Bool := decide (0 ≤ s) && decide (s < 2 ^ m.toNat) && (List.range (m.toNat - 1)).all fun (i : Nat) => (s.toNat.testBit (i + 1) == s.toNat.testBit (m.toNat - (i + 1)))
noncomputable def con92 : Con := mkC 92 [.d I64, .d (.ptr Qt)] [.bool] (fun (s : Int) (q : QtD) => [is135 q.1 = true]) (fun (s : Int) (q : QtD) => (!seqB q.1 s, ()))
noncomputable def g92 (x0 : Int) (x1 : Int × (Int × Int × Int × Int × Unit) × Unit) : Option (Bool × Unit) := gd ((!ilt x0 (0 : Int)) = true → (!ilt x0 (0 : Int)) = true) (gd ((!ilt x0 (0 : Int)) = true → (!ilt x0 (0 : Int)) = true ∧ (0 : Int) ≤ x1.1) (gd ((!ilt x0 (0 : Int)) = true → (!ilt x0 (0 : Int)) = true ∧ (!ilt x0 (0 : Int)) = true) (gd (ilt x0 (0 : Int) = false → (!ilt x0 (0 : Int)) = true) (bif bif ilt x0 (0 : Int) then true else ile (ishl IntKind.i64 (1 : Int) x1.1) x0 then some ((true, ()) : Bool × Unit) else whileO (fun (d2 : Int × Unit) => bif ilt d2.1 x1.1 then gd ((0 : Int) ≤ d2.1) (gd ((0 : Int) ≤ wr IntKind.i64 (x1.1 - d2.1)) (bif !ieq (iand IntKind.i64 (ishr IntKind.i64 x0 d2.1) (1 : Int)) (iand IntKind.i64 (ishr IntKind.i64 x0 (wr IntKind.i64 (x1.1 - d2.1))) (1 : Int)) then some (Lp.out ((true, ()) : Bool × Unit)) else some (Lp.go ((wr IntKind.i64 (d2.1 + (1 : Int)), ()) : Int × Unit)))) else some (Lp.out ((false, ()) : Bool × Unit))) (((1 : Int), ()) : Int × Unit)))))
noncomputable def g92_sh : List LSh := LSh.mk (((4, TV.v (Ty.int IntKind.i64)) : Nat × TV) :: ([] : List (Nat × TV))) ([] : List TB) :: ([] : List LSh)
def ixSeq (m : Int) : List Int → Int → Int
  | [], _ => -1
  | x :: l, i => if seqB m x = true then ixSeq m l (i + 1) else i
noncomputable def con110 : Con := mkC 110 [.d LI, .fn 92 [.ptr Qt]] [I64] (fun (l : List Int) (q : QtD) => [small l, is135 q.1 = true]) (fun (l : List Int) (q : QtD) => (ixSeq q.1 l 0, ()))
noncomputable def g110 (x0 : List Int) (x1 : Int × (Int × Int × Int × Int × Unit) × Unit) : Option (Int × Unit) := whileO (fun (d2 : (Int × (Int × Int × Int × Int × Unit) × Unit) × Int × Unit) => bif ilt d2.2.1 (↑(List.length x0) : Int) then gd ((0 : Int) ≤ d2.2.1 ∧ d2.2.1 < (↑(List.length x0) : Int)) (gd (is135 d2.1.1 = true) (bif !seqB d2.1.1 (List.getD x0 (Int.toNat d2.2.1) (0 : Int)) then some (Lp.out ((d2.2.1, ()) : Int × Unit)) else some (Lp.go ((d2.1, wr IntKind.i64 (d2.2.1 + (1 : Int)), ()) : (Int × (Int × Int × Int × Int × Unit) × Unit) × Int × Unit)))) else some (Lp.out (((-1 : Int), ()) : Int × Unit))) ((x1, (0 : Int), ()) : (Int × (Int × Int × Int × Int × Unit) × Unit) × Int × Unit)
noncomputable def g110_sh : List LSh := LSh.mk (((1, TV.fn (92) (TV.cons (TV.v (Ty.ptr (Ty.prod (Ty.int IntKind.i64) (Ty.prod (Ty.prod (Ty.int IntKind.i64) (Ty.prod (Ty.int IntKind.i64) (Ty.prod (Ty.int IntKind.i64) (Ty.prod (Ty.int IntKind.i64) Ty.unit)))) Ty.unit)))) TV.nil)) : Nat × TV) :: ((8, TV.v (Ty.int IntKind.i64)) : Nat × TV) :: ([] : List (Nat × TV))) ([] : List TB) :: ([] : List LSh)
noncomputable def con91 : Con := mkC 91 [.d LI, .fn 92 [.ptr Qt]] [.bool] (fun (l : List Int) (q : QtD) => [small l, is135 q.1 = true]) (fun (l : List Int) (q : QtD) => (!l.all (seqB q.1), ()))
noncomputable def g91 (x0 : List Int) (x1 : Int × (Int × Int × Int × Int × Unit) × Unit) : Option (Bool × Unit) := gd (small x0) (gd (is135 x1.1 = true) (some ((ile (0 : Int) (ixSeq x1.1 x0 (0 : Int)), ()) : Bool × Unit)))
noncomputable def g91_sh : List LSh := ([] : List LSh)
def l4 (s : A4D) : List Int := [s.1, s.2.1, s.2.2.1, s.2.2.2.1]
def valQ (q : QtD) : Bool := is135 q.1 && (l4 q.2.1).all (seqB q.1)
noncomputable def con73 : Con := mkC 73 [.d Qt] [.bool] (fun (q : QtD) => []) (fun (q : QtD) => (valQ q, ()))
noncomputable def g73 (x0 : Int × (Int × Int × Int × Int × Unit) × Unit) : Option (Bool × Unit) := gd ((0 : Nat) < (5 : Nat)) (gd ((!ieq x0.1 (1 : Int)) = true → (!ieq x0.1 (1 : Int)) = true ∧ (0 : Nat) < (5 : Nat)) (gd ((!ieq x0.1 (1 : Int)) = true → (!ieq x0.1 (1 : Int)) = true) (gd ((!ieq x0.1 (1 : Int)) = true → (!ieq x0.1 (1 : Int)) = true) (gd ((bif !ieq x0.1 (1 : Int) then !ieq x0.1 (3 : Int) else false) = true → (bif !ieq x0.1 (1 : Int) then !ieq x0.1 (3 : Int) else false) = true ∧ (0 : Nat) < (5 : Nat)) (gd ((bif !ieq x0.1 (1 : Int) then !ieq x0.1 (3 : Int) else false) = true → (bif !ieq x0.1 (1 : Int) then !ieq x0.1 (3 : Int) else false) = true) (gd ((bif !ieq x0.1 (1 : Int) then !ieq x0.1 (3 : Int) else false) = true → (bif !ieq x0.1 (1 : Int) then !ieq x0.1 (3 : Int) else false) = true) (bif bif bif !ieq x0.1 (1 : Int) then !ieq x0.1 (3 : Int) else false then !ieq x0.1 (5 : Int) else false then some ((false, ()) : Bool × Unit) else gd ((5 : Nat) ≤ (5 : Nat)) (gd ((5 : Nat) ≤ (5 : Nat)) (gd (small (x0.2.1.1 :: x0.2.1.2.1 :: x0.2.1.2.2.1 :: x0.2.1.2.2.2.1 :: ([] : List Int))) (gd (is135 x0.1 = true) (some ((!!(seqB x0.1 x0.2.1.1 && (seqB x0.1 x0.2.1.2.1 && (seqB x0.1 x0.2.1.2.2.1 && (seqB x0.1 x0.2.1.2.2.2.1 && true)))), ()) : Bool × Unit))))))))))))
noncomputable def g73_sh : List LSh := ([] : List LSh)
def sgT (s : Int) (i : Int) : Int := if s.toNat.testBit i.toNat = true then -1 else 1
def sK (s : A4D) (k : Int) : Int := (l4 s).getD k.toNat 0
def sgnF (q : QtD) (k i : Int) : Int := sgT (sK q.2.1 k) (i % q.1)
noncomputable def con77 : Con := mkC 77 [.d Qt, .d I64, .d I64] [I64] (fun (q : QtD) (k i : Int) => [valQ q = true, 0 ≤ k, k < 4, -5 ≤ i, i ≤ 10]) (fun (q : QtD) (k i : Int) => (sgnF q k i, ()))
noncomputable def g77 (x0 : Int × (Int × Int × Int × Int × Unit) × Unit) (x1 x2 : Int) : Option (Int × Unit) := gd ((0 : Int) ≤ x1 ∧ x1 < (4 : Int)) (gd ((1 : Nat) + Int.toNat x1 * (1 : Nat) < (5 : Nat)) (gd ((0 : Nat) < (5 : Nat)) (gd (x0.1 ≠ (0 : Int)) (gd ((0 : Nat) < (5 : Nat)) (gd ((0 : Nat) < (5 : Nat)) (gd (x0.1 ≠ (0 : Int)) (gd ((0 : Int) ≤ Int.tmod (wr IntKind.i64 (Int.tmod x2 x0.1 + x0.1)) x0.1) (some ((wr IntKind.i64 ((1 : Int) - wr IntKind.i64 ((2 : Int) * iand IntKind.i64 (ishr IntKind.i64 (List.getD (x0.1 :: x0.2.1.1 :: x0.2.1.2.1 :: x0.2.1.2.2.1 :: x0.2.1.2.2.2.1 :: ([] : List Int)) ((1 : Nat) + Int.toNat x1 * (1 : Nat)) (0 : Int)) (Int.tmod (wr IntKind.i64 (Int.tmod x2 x0.1 + x0.1)) x0.1)) (1 : Int))), ()) : Int × Unit)))))))))
noncomputable def g77_sh : List LSh := ([] : List LSh)
def gSum (q : QtD) (d : Int) : Int := sumN (fun k => sumN (fun i => sgnF q k i * sgnF q k (i + d)) q.1.toNat) 4
def goodF (q : QtD) : Bool := (List.range (q.1.toNat - 1)).all fun (d : Nat) => decide (gSum q ((d + 1 : Nat) : Int) = 0)
noncomputable def con74 : Con := mkC 74 [.d Qt] [.bool] (fun (q : QtD) => [valQ q = true]) (fun (q : QtD) => (goodF q, ()))
noncomputable def g74_l0 (d1 : Int × List Int × Unit) (d2 d3 : Int × Int × List Int × Unit) : Option (Lp (Int × Int × List Int × Unit) (Lp (Int × Int × List Int × Unit) (Lp (Int × List Int × Unit) (Bool × Unit)))) := bif ilt d3.2.1 (List.getD d2.2.2.1 (0 : Nat) (0 : Int)) then gd ((5 : Nat) ≤ List.length d3.2.2.1) (gd (valQ ((List.getD d3.2.2.1 (0 : Nat) (0 : Int), ((List.getD d3.2.2.1 (1 : Nat) (0 : Int), List.getD d3.2.2.1 (2 : Nat) (0 : Int), List.getD d3.2.2.1 (3 : Nat) (0 : Int), List.getD d3.2.2.1 (4 : Nat) (0 : Int), ()) : Int × Int × Int × Int × Unit), ()) : Int × (Int × Int × Int × Int × Unit) × Unit) = true) (gd ((0 : Int) ≤ d2.2.1) (gd (d2.2.1 < (4 : Int)) (gd ((-5 : Int) ≤ d3.2.1) (gd (d3.2.1 ≤ (10 : Int)) (gd ((5 : Nat) ≤ List.length d3.2.2.1) (gd (valQ ((List.getD d3.2.2.1 (0 : Nat) (0 : Int), ((List.getD d3.2.2.1 (1 : Nat) (0 : Int), List.getD d3.2.2.1 (2 : Nat) (0 : Int), List.getD d3.2.2.1 (3 : Nat) (0 : Int), List.getD d3.2.2.1 (4 : Nat) (0 : Int), ()) : Int × Int × Int × Int × Unit), ()) : Int × (Int × Int × Int × Int × Unit) × Unit) = true) (gd ((0 : Int) ≤ d2.2.1) (gd (d2.2.1 < (4 : Int)) (gd ((-5 : Int) ≤ wr IntKind.i64 (d3.2.1 + d1.1)) (gd (wr IntKind.i64 (d3.2.1 + d1.1) ≤ (10 : Int)) (some (Lp.go ((wr IntKind.i64 (d3.1 + wr IntKind.i64 (sgnF ((List.getD d3.2.2.1 (0 : Nat) (0 : Int), ((List.getD d3.2.2.1 (1 : Nat) (0 : Int), List.getD d3.2.2.1 (2 : Nat) (0 : Int), List.getD d3.2.2.1 (3 : Nat) (0 : Int), List.getD d3.2.2.1 (4 : Nat) (0 : Int), ()) : Int × Int × Int × Int × Unit), ()) : Int × (Int × Int × Int × Int × Unit) × Unit) d2.2.1 d3.2.1 * sgnF ((List.getD d3.2.2.1 (0 : Nat) (0 : Int), ((List.getD d3.2.2.1 (1 : Nat) (0 : Int), List.getD d3.2.2.1 (2 : Nat) (0 : Int), List.getD d3.2.2.1 (3 : Nat) (0 : Int), List.getD d3.2.2.1 (4 : Nat) (0 : Int), ()) : Int × Int × Int × Int × Unit), ()) : Int × (Int × Int × Int × Int × Unit) × Unit) d2.2.1 (wr IntKind.i64 (d3.2.1 + d1.1)))), wr IntKind.i64 (d3.2.1 + (1 : Int)), d3.2.2.1, ()) : Int × Int × List Int × Unit)))))))))))))) else some (Lp.out (Lp.go ((d3.1, wr IntKind.i64 (d2.2.1 + (1 : Int)), d3.2.2.1, ()) : Int × Int × List Int × Unit)))
noncomputable def g74_l1 (d1 : Int × List Int × Unit) (d2 : Int × Int × List Int × Unit) : Option (Lp (Int × Int × List Int × Unit) (Lp (Int × List Int × Unit) (Bool × Unit))) := bif ilt d2.2.1 (4 : Int) then gd ((0 : Nat) < List.length d2.2.2.1) (whileO (g74_l0 d1 d2) ((d2.1, (0 : Int), d2.2.2.1, ()) : Int × Int × List Int × Unit)) else bif !ieq d2.1 (0 : Int) then some (Lp.out (Lp.out ((false, ()) : Bool × Unit))) else some (Lp.out (Lp.go ((wr IntKind.i64 (d1.1 + (1 : Int)), d2.2.2.1, ()) : Int × List Int × Unit)))
noncomputable def g74 (x0 : Int × (Int × Int × Int × Int × Unit) × Unit) : Option (Bool × Unit) := whileO (fun (d1 : Int × List Int × Unit) => gd ((0 : Nat) < List.length d1.2.1) (bif ilt d1.1 (List.getD d1.2.1 (0 : Nat) (0 : Int)) then whileO (g74_l1 d1) (((0 : Int), (0 : Int), d1.2.1, ()) : Int × Int × List Int × Unit) else some (Lp.out ((true, ()) : Bool × Unit)))) (((1 : Int), x0.1 :: x0.2.1.1 :: x0.2.1.2.1 :: x0.2.1.2.2.1 :: x0.2.1.2.2.2.1 :: ([] : List Int), ()) : Int × List Int × Unit)
noncomputable def g74_sh : List LSh := LSh.mk (((1, TV.ref (0) (1 : Nat) (0 : Nat) (0 : Nat)) : Nat × TV) :: ((3, TV.v (Ty.int IntKind.i64)) : Nat × TV) :: ([] : List (Nat × TV))) (TB.arr (Ty.int IntKind.i64) false :: ([] : List TB)) :: LSh.mk (((1, TV.ref (0) (1 : Nat) (0 : Nat) (0 : Nat)) : Nat × TV) :: ((4, TV.v (Ty.int IntKind.i64)) : Nat × TV) :: ((13, TV.v (Ty.int IntKind.i64)) : Nat × TV) :: ([] : List (Nat × TV))) (TB.arr (Ty.int IntKind.i64) false :: ([] : List TB)) :: LSh.mk (((1, TV.ref (0) (1 : Nat) (0 : Nat) (0 : Nat)) : Nat × TV) :: ((4, TV.v (Ty.int IntKind.i64)) : Nat × TV) :: ((18, TV.v (Ty.int IntKind.i64)) : Nat × TV) :: ([] : List (Nat × TV))) (TB.arr (Ty.int IntKind.i64) false :: ([] : List TB)) :: ([] : List LSh)
def goodX (q : QtD) : Bool × Int × Unit := if valQ q = true then (goodF q, 0, ()) else (false, 2, ())
noncomputable def con35 : Con := mkC 35 [.d I64, .d A4] [.bool, I64] (fun (m : Int) (s : A4D) => []) (fun (m : Int) (s : A4D) => goodX (m, s, ()))
noncomputable def g35 (x0 : Int) (x1 : Int × Int × Int × Int × Unit) : Option (Bool × Int × Unit) := gd ((4 : Nat) ≤ (4 : Nat)) (gd ((5 : Nat) ≤ (5 : Nat)) (gd ((5 : Nat) ≤ (5 : Nat)) (bif !valQ ((x0, ((x1.1, x1.2.1, x1.2.2.1, x1.2.2.2.1, ()) : Int × Int × Int × Int × Unit), ()) : Int × (Int × Int × Int × Int × Unit) × Unit) then some ((false, (2 : Int), ()) : Bool × Int × Unit) else gd ((5 : Nat) ≤ (5 : Nat)) (gd (valQ ((x0, ((x1.1, x1.2.1, x1.2.2.1, x1.2.2.2.1, ()) : Int × Int × Int × Int × Unit), ()) : Int × (Int × Int × Int × Int × Unit) × Unit) = true) (some ((goodF ((x0, ((x1.1, x1.2.1, x1.2.2.1, x1.2.2.2.1, ()) : Int × Int × Int × Int × Unit), ()) : Int × (Int × Int × Int × Int × Unit) × Unit), (0 : Int), ()) : Bool × Int × Unit))))))
noncomputable def g35_sh : List LSh := ([] : List LSh)
abbrev Bk : Ty := .prod I64 (.prod .bool .unit)
abbrev R4 : Ty := .prod Bk (.prod Bk (.prod Bk (.prod Bk .unit)))
abbrev W4 : Ty := .prod R4 (.prod R4 (.prod R4 (.prod R4 .unit)))
abbrev BkD := Int × Bool × Unit
abbrev R4D := BkD × BkD × BkD × BkD × Unit
abbrev W4D := R4D × R4D × R4D × R4D × Unit
def whereC : W4D := (((0, false, ()), (1, false, ()), (2, false, ()), (3, false, ()), ()), ((1, true, ()), (0, false, ()), (3, true, ()), (2, false, ()), ()), ((2, true, ()), (3, false, ()), (0, false, ()), (1, true, ()), ()), ((3, true, ()), (2, true, ()), (1, false, ()), (0, false, ()), ()), ())
noncomputable def con75 : Con := mkC 75 [] [W4] [] (whereC, ())
noncomputable def g75  : Option ((((Int × Bool × Unit) × (Int × Bool × Unit) × (Int × Bool × Unit) × (Int × Bool × Unit) × Unit) × ((Int × Bool × Unit) × (Int × Bool × Unit) × (Int × Bool × Unit) × (Int × Bool × Unit) × Unit) × ((Int × Bool × Unit) × (Int × Bool × Unit) × (Int × Bool × Unit) × (Int × Bool × Unit) × Unit) × ((Int × Bool × Unit) × (Int × Bool × Unit) × (Int × Bool × Unit) × (Int × Bool × Unit) × Unit) × Unit) × Unit) := some (((((((((0 : Int), false, ()) : Int × Bool × Unit), (((1 : Int), false, ()) : Int × Bool × Unit), (((2 : Int), false, ()) : Int × Bool × Unit), (((3 : Int), false, ()) : Int × Bool × Unit), ()) : (Int × Bool × Unit) × (Int × Bool × Unit) × (Int × Bool × Unit) × (Int × Bool × Unit) × Unit), (((((1 : Int), true, ()) : Int × Bool × Unit), (((0 : Int), false, ()) : Int × Bool × Unit), (((3 : Int), true, ()) : Int × Bool × Unit), (((2 : Int), false, ()) : Int × Bool × Unit), ()) : (Int × Bool × Unit) × (Int × Bool × Unit) × (Int × Bool × Unit) × (Int × Bool × Unit) × Unit), (((((2 : Int), true, ()) : Int × Bool × Unit), (((3 : Int), false, ()) : Int × Bool × Unit), (((0 : Int), false, ()) : Int × Bool × Unit), (((1 : Int), true, ()) : Int × Bool × Unit), ()) : (Int × Bool × Unit) × (Int × Bool × Unit) × (Int × Bool × Unit) × (Int × Bool × Unit) × Unit), (((((3 : Int), true, ()) : Int × Bool × Unit), (((2 : Int), true, ()) : Int × Bool × Unit), (((1 : Int), false, ()) : Int × Bool × Unit), (((0 : Int), false, ()) : Int × Bool × Unit), ()) : (Int × Bool × Unit) × (Int × Bool × Unit) × (Int × Bool × Unit) × (Int × Bool × Unit) × Unit), ()) : ((Int × Bool × Unit) × (Int × Bool × Unit) × (Int × Bool × Unit) × (Int × Bool × Unit) × Unit) × ((Int × Bool × Unit) × (Int × Bool × Unit) × (Int × Bool × Unit) × (Int × Bool × Unit) × Unit) × ((Int × Bool × Unit) × (Int × Bool × Unit) × (Int × Bool × Unit) × (Int × Bool × Unit) × Unit) × ((Int × Bool × Unit) × (Int × Bool × Unit) × (Int × Bool × Unit) × (Int × Bool × Unit) × Unit) × Unit), ()) : (((Int × Bool × Unit) × (Int × Bool × Unit) × (Int × Bool × Unit) × (Int × Bool × Unit) × Unit) × ((Int × Bool × Unit) × (Int × Bool × Unit) × (Int × Bool × Unit) × (Int × Bool × Unit) × Unit) × ((Int × Bool × Unit) × (Int × Bool × Unit) × (Int × Bool × Unit) × (Int × Bool × Unit) × Unit) × ((Int × Bool × Unit) × (Int × Bool × Unit) × (Int × Bool × Unit) × (Int × Bool × Unit) × Unit) × Unit) × Unit)
noncomputable def g75_sh : List LSh := ([] : List LSh)
def isNeg (a b : Int) : Bool := [4, 6, 8, 11, 12, 13].contains (4 * a + b)
def blkX (a b : Int) : Int := ((a.toNat ^^^ b.toNat : Nat) : Int)
def arrB (q : QtD) (i j : Int) : Bool := xor (decide (sgnF q (blkX (i / q.1) (j / q.1)) (j % q.1 - i % q.1) < 0)) (isNeg (i / q.1) (j / q.1))
noncomputable def con76 : Con := mkC 76 [.d I64, .d I64, .d (.ptr W4), .d (.ptr I64), .d (.ptr Qt)] [.bool] (fun (i j : Int) (w : W4D) (m : Int) (q : QtD) => [w = whereC, m = q.1, valQ q = true, 0 ≤ i, i < 4 * m, 0 ≤ j, j < 4 * m]) (fun (i j : Int) (w : W4D) (m : Int) (q : QtD) => (arrB q i j, ()))
noncomputable def g76 (x0 x1 : Int) (x2 : ((Int × Bool × Unit) × (Int × Bool × Unit) × (Int × Bool × Unit) × (Int × Bool × Unit) × Unit) × ((Int × Bool × Unit) × (Int × Bool × Unit) × (Int × Bool × Unit) × (Int × Bool × Unit) × Unit) × ((Int × Bool × Unit) × (Int × Bool × Unit) × (Int × Bool × Unit) × (Int × Bool × Unit) × Unit) × ((Int × Bool × Unit) × (Int × Bool × Unit) × (Int × Bool × Unit) × (Int × Bool × Unit) × Unit) × Unit) (x3 : Int) (x4 : Int × (Int × Int × Int × Int × Unit) × Unit) : Option (Bool × Unit) := gd (x3 ≠ (0 : Int)) (gd (x3 ≠ (0 : Int)) (gd ((0 : Int) ≤ wr IntKind.i64 (Int.tdiv x0 x3) ∧ wr IntKind.i64 (Int.tdiv x0 x3) < (4 : Int)) (gd ((0 : Int) ≤ wr IntKind.i64 (Int.tdiv x1 x3) ∧ wr IntKind.i64 (Int.tdiv x1 x3) < (4 : Int)) (gd (x3 ≠ (0 : Int)) (gd (x3 ≠ (0 : Int)) (gd (valQ x4 = true) (gd ((0 : Int) ≤ (@id (Int × Bool × Unit) (arrGet (4 : Nat) (Ty.prod (Ty.int IntKind.i64) (Ty.prod Ty.bool Ty.unit)) ((@id ((Int × Bool × Unit) × (Int × Bool × Unit) × (Int × Bool × Unit) × (Int × Bool × Unit) × Unit) (arrGet (4 : Nat) (Ty.prod (Ty.prod (Ty.int IntKind.i64) (Ty.prod Ty.bool Ty.unit)) (Ty.prod (Ty.prod (Ty.int IntKind.i64) (Ty.prod Ty.bool Ty.unit)) (Ty.prod (Ty.prod (Ty.int IntKind.i64) (Ty.prod Ty.bool Ty.unit)) (Ty.prod (Ty.prod (Ty.int IntKind.i64) (Ty.prod Ty.bool Ty.unit)) Ty.unit)))) (x2 : ((Int × Bool × Unit) × (Int × Bool × Unit) × (Int × Bool × Unit) × (Int × Bool × Unit) × Unit) × ((Int × Bool × Unit) × (Int × Bool × Unit) × (Int × Bool × Unit) × (Int × Bool × Unit) × Unit) × ((Int × Bool × Unit) × (Int × Bool × Unit) × (Int × Bool × Unit) × (Int × Bool × Unit) × Unit) × ((Int × Bool × Unit) × (Int × Bool × Unit) × (Int × Bool × Unit) × (Int × Bool × Unit) × Unit) × Unit) (Int.toNat (wr IntKind.i64 (Int.tdiv x0 x3))))) : Den (Ty.prod (Ty.prod (Ty.int IntKind.i64) (Ty.prod Ty.bool Ty.unit)) (Ty.prod (Ty.prod (Ty.int IntKind.i64) (Ty.prod Ty.bool Ty.unit)) (Ty.prod (Ty.prod (Ty.int IntKind.i64) (Ty.prod Ty.bool Ty.unit)) (Ty.prod (Ty.prod (Ty.int IntKind.i64) (Ty.prod Ty.bool Ty.unit)) Ty.unit))))) (Int.toNat (wr IntKind.i64 (Int.tdiv x1 x3))))).1) (gd ((@id (Int × Bool × Unit) (arrGet (4 : Nat) (Ty.prod (Ty.int IntKind.i64) (Ty.prod Ty.bool Ty.unit)) ((@id ((Int × Bool × Unit) × (Int × Bool × Unit) × (Int × Bool × Unit) × (Int × Bool × Unit) × Unit) (arrGet (4 : Nat) (Ty.prod (Ty.prod (Ty.int IntKind.i64) (Ty.prod Ty.bool Ty.unit)) (Ty.prod (Ty.prod (Ty.int IntKind.i64) (Ty.prod Ty.bool Ty.unit)) (Ty.prod (Ty.prod (Ty.int IntKind.i64) (Ty.prod Ty.bool Ty.unit)) (Ty.prod (Ty.prod (Ty.int IntKind.i64) (Ty.prod Ty.bool Ty.unit)) Ty.unit)))) (x2 : ((Int × Bool × Unit) × (Int × Bool × Unit) × (Int × Bool × Unit) × (Int × Bool × Unit) × Unit) × ((Int × Bool × Unit) × (Int × Bool × Unit) × (Int × Bool × Unit) × (Int × Bool × Unit) × Unit) × ((Int × Bool × Unit) × (Int × Bool × Unit) × (Int × Bool × Unit) × (Int × Bool × Unit) × Unit) × ((Int × Bool × Unit) × (Int × Bool × Unit) × (Int × Bool × Unit) × (Int × Bool × Unit) × Unit) × Unit) (Int.toNat (wr IntKind.i64 (Int.tdiv x0 x3))))) : Den (Ty.prod (Ty.prod (Ty.int IntKind.i64) (Ty.prod Ty.bool Ty.unit)) (Ty.prod (Ty.prod (Ty.int IntKind.i64) (Ty.prod Ty.bool Ty.unit)) (Ty.prod (Ty.prod (Ty.int IntKind.i64) (Ty.prod Ty.bool Ty.unit)) (Ty.prod (Ty.prod (Ty.int IntKind.i64) (Ty.prod Ty.bool Ty.unit)) Ty.unit))))) (Int.toNat (wr IntKind.i64 (Int.tdiv x1 x3))))).1 < (4 : Int)) (gd ((-5 : Int) ≤ wr IntKind.i64 (Int.tmod x1 x3 - Int.tmod x0 x3)) (gd (wr IntKind.i64 (Int.tmod x1 x3 - Int.tmod x0 x3) ≤ (10 : Int)) (some ((!beqB (ilt (sgnF x4 (@id (Int × Bool × Unit) (arrGet (4 : Nat) (Ty.prod (Ty.int IntKind.i64) (Ty.prod Ty.bool Ty.unit)) ((@id ((Int × Bool × Unit) × (Int × Bool × Unit) × (Int × Bool × Unit) × (Int × Bool × Unit) × Unit) (arrGet (4 : Nat) (Ty.prod (Ty.prod (Ty.int IntKind.i64) (Ty.prod Ty.bool Ty.unit)) (Ty.prod (Ty.prod (Ty.int IntKind.i64) (Ty.prod Ty.bool Ty.unit)) (Ty.prod (Ty.prod (Ty.int IntKind.i64) (Ty.prod Ty.bool Ty.unit)) (Ty.prod (Ty.prod (Ty.int IntKind.i64) (Ty.prod Ty.bool Ty.unit)) Ty.unit)))) (x2 : ((Int × Bool × Unit) × (Int × Bool × Unit) × (Int × Bool × Unit) × (Int × Bool × Unit) × Unit) × ((Int × Bool × Unit) × (Int × Bool × Unit) × (Int × Bool × Unit) × (Int × Bool × Unit) × Unit) × ((Int × Bool × Unit) × (Int × Bool × Unit) × (Int × Bool × Unit) × (Int × Bool × Unit) × Unit) × ((Int × Bool × Unit) × (Int × Bool × Unit) × (Int × Bool × Unit) × (Int × Bool × Unit) × Unit) × Unit) (Int.toNat (wr IntKind.i64 (Int.tdiv x0 x3))))) : Den (Ty.prod (Ty.prod (Ty.int IntKind.i64) (Ty.prod Ty.bool Ty.unit)) (Ty.prod (Ty.prod (Ty.int IntKind.i64) (Ty.prod Ty.bool Ty.unit)) (Ty.prod (Ty.prod (Ty.int IntKind.i64) (Ty.prod Ty.bool Ty.unit)) (Ty.prod (Ty.prod (Ty.int IntKind.i64) (Ty.prod Ty.bool Ty.unit)) Ty.unit))))) (Int.toNat (wr IntKind.i64 (Int.tdiv x1 x3))))).1 (wr IntKind.i64 (Int.tmod x1 x3 - Int.tmod x0 x3))) (0 : Int)) (@id (Int × Bool × Unit) (arrGet (4 : Nat) (Ty.prod (Ty.int IntKind.i64) (Ty.prod Ty.bool Ty.unit)) ((@id ((Int × Bool × Unit) × (Int × Bool × Unit) × (Int × Bool × Unit) × (Int × Bool × Unit) × Unit) (arrGet (4 : Nat) (Ty.prod (Ty.prod (Ty.int IntKind.i64) (Ty.prod Ty.bool Ty.unit)) (Ty.prod (Ty.prod (Ty.int IntKind.i64) (Ty.prod Ty.bool Ty.unit)) (Ty.prod (Ty.prod (Ty.int IntKind.i64) (Ty.prod Ty.bool Ty.unit)) (Ty.prod (Ty.prod (Ty.int IntKind.i64) (Ty.prod Ty.bool Ty.unit)) Ty.unit)))) (x2 : ((Int × Bool × Unit) × (Int × Bool × Unit) × (Int × Bool × Unit) × (Int × Bool × Unit) × Unit) × ((Int × Bool × Unit) × (Int × Bool × Unit) × (Int × Bool × Unit) × (Int × Bool × Unit) × Unit) × ((Int × Bool × Unit) × (Int × Bool × Unit) × (Int × Bool × Unit) × (Int × Bool × Unit) × Unit) × ((Int × Bool × Unit) × (Int × Bool × Unit) × (Int × Bool × Unit) × (Int × Bool × Unit) × Unit) × Unit) (Int.toNat (wr IntKind.i64 (Int.tdiv x0 x3))))) : Den (Ty.prod (Ty.prod (Ty.int IntKind.i64) (Ty.prod Ty.bool Ty.unit)) (Ty.prod (Ty.prod (Ty.int IntKind.i64) (Ty.prod Ty.bool Ty.unit)) (Ty.prod (Ty.prod (Ty.int IntKind.i64) (Ty.prod Ty.bool Ty.unit)) (Ty.prod (Ty.prod (Ty.int IntKind.i64) (Ty.prod Ty.bool Ty.unit)) Ty.unit))))) (Int.toNat (wr IntKind.i64 (Int.tdiv x1 x3))))).2.1, ()) : Bool × Unit))))))))))))
noncomputable def g76_sh : List LSh := ([] : List LSh)
noncomputable def con59a : Con := mkC 59 [.d I64, .fn 76 [.ptr W4, .ptr I64, .ptr Qt]] [LI] (fun (n : Int) (w : W4D) (m : Int) (q : QtD) => [w = whereC, m = q.1, valQ q = true, n = 4 * m, n ≤ 16]) (fun (n : Int) (w : W4D) (m : Int) (q : QtD) => (madeF n.toNat (arrB q), ()))
noncomputable def g59a_l0 (x0 : Int) (d4 d5 : (((Int × Bool × Unit) × (Int × Bool × Unit) × (Int × Bool × Unit) × (Int × Bool × Unit) × Unit) × ((Int × Bool × Unit) × (Int × Bool × Unit) × (Int × Bool × Unit) × (Int × Bool × Unit) × Unit) × ((Int × Bool × Unit) × (Int × Bool × Unit) × (Int × Bool × Unit) × (Int × Bool × Unit) × Unit) × ((Int × Bool × Unit) × (Int × Bool × Unit) × (Int × Bool × Unit) × (Int × Bool × Unit) × Unit) × Unit) × Int × (Int × (Int × Int × Int × Int × Unit) × Unit) × Int × List Int × Unit) : Option (Lp ((((Int × Bool × Unit) × (Int × Bool × Unit) × (Int × Bool × Unit) × (Int × Bool × Unit) × Unit) × ((Int × Bool × Unit) × (Int × Bool × Unit) × (Int × Bool × Unit) × (Int × Bool × Unit) × Unit) × ((Int × Bool × Unit) × (Int × Bool × Unit) × (Int × Bool × Unit) × (Int × Bool × Unit) × Unit) × ((Int × Bool × Unit) × (Int × Bool × Unit) × (Int × Bool × Unit) × (Int × Bool × Unit) × Unit) × Unit) × Int × (Int × (Int × Int × Int × Int × Unit) × Unit) × Int × List Int × Unit) (Lp ((((Int × Bool × Unit) × (Int × Bool × Unit) × (Int × Bool × Unit) × (Int × Bool × Unit) × Unit) × ((Int × Bool × Unit) × (Int × Bool × Unit) × (Int × Bool × Unit) × (Int × Bool × Unit) × Unit) × ((Int × Bool × Unit) × (Int × Bool × Unit) × (Int × Bool × Unit) × (Int × Bool × Unit) × Unit) × ((Int × Bool × Unit) × (Int × Bool × Unit) × (Int × Bool × Unit) × (Int × Bool × Unit) × Unit) × Unit) × Int × (Int × (Int × Int × Int × Int × Unit) × Unit) × Int × List Int × Unit) (List Int × Unit))) := bif ilt d5.2.2.2.1 x0 then gd (d5.1 = whereC) (gd (d5.2.1 = d5.2.2.1.1) (gd (valQ d5.2.2.1 = true) (gd ((0 : Int) ≤ d4.2.2.2.1) (gd (d4.2.2.2.1 < (4 : Int) * d5.2.1) (gd ((0 : Int) ≤ d5.2.2.2.1) (gd (d5.2.2.2.1 < (4 : Int) * d5.2.1) (bif arrB d5.2.2.1 d4.2.2.2.1 d5.2.2.2.1 then gd ((0 : Int) ≤ d4.2.2.2.1 ∧ d4.2.2.2.1 < (↑(List.length d5.2.2.2.2.1) : Int)) (gd ((0 : Nat) + Int.toNat d4.2.2.2.1 < List.length d5.2.2.2.2.1) (gd ((0 : Int) ≤ d5.2.2.2.1) (gd ((0 : Int) ≤ d4.2.2.2.1 ∧ d4.2.2.2.1 < (↑(List.length d5.2.2.2.2.1) : Int)) (gd ((0 : Nat) + Int.toNat d4.2.2.2.1 < List.length d5.2.2.2.2.1) (gd (List.length d5.2.2.2.2.1 = List.length (List.set d5.2.2.2.2.1 ((0 : Nat) + Int.toNat d4.2.2.2.1) (ior IntKind.i64 (List.getD d5.2.2.2.2.1 ((0 : Nat) + Int.toNat d4.2.2.2.1) (0 : Int)) (ishl IntKind.i64 (1 : Int) d5.2.2.2.1)))) (some (Lp.go ((d5.1, d5.2.1, d5.2.2.1, wr IntKind.i64 (d5.2.2.2.1 + (1 : Int)), List.set d5.2.2.2.2.1 ((0 : Nat) + Int.toNat d4.2.2.2.1) (ior IntKind.i64 (List.getD d5.2.2.2.2.1 ((0 : Nat) + Int.toNat d4.2.2.2.1) (0 : Int)) (ishl IntKind.i64 (1 : Int) d5.2.2.2.1)), ()) : (((Int × Bool × Unit) × (Int × Bool × Unit) × (Int × Bool × Unit) × (Int × Bool × Unit) × Unit) × ((Int × Bool × Unit) × (Int × Bool × Unit) × (Int × Bool × Unit) × (Int × Bool × Unit) × Unit) × ((Int × Bool × Unit) × (Int × Bool × Unit) × (Int × Bool × Unit) × (Int × Bool × Unit) × Unit) × ((Int × Bool × Unit) × (Int × Bool × Unit) × (Int × Bool × Unit) × (Int × Bool × Unit) × Unit) × Unit) × Int × (Int × (Int × Int × Int × Int × Unit) × Unit) × Int × List Int × Unit)))))))) else gd (List.length d5.2.2.2.2.1 = List.length d5.2.2.2.2.1) (some (Lp.go ((d5.1, d5.2.1, d5.2.2.1, wr IntKind.i64 (d5.2.2.2.1 + (1 : Int)), d5.2.2.2.2.1, ()) : (((Int × Bool × Unit) × (Int × Bool × Unit) × (Int × Bool × Unit) × (Int × Bool × Unit) × Unit) × ((Int × Bool × Unit) × (Int × Bool × Unit) × (Int × Bool × Unit) × (Int × Bool × Unit) × Unit) × ((Int × Bool × Unit) × (Int × Bool × Unit) × (Int × Bool × Unit) × (Int × Bool × Unit) × Unit) × ((Int × Bool × Unit) × (Int × Bool × Unit) × (Int × Bool × Unit) × (Int × Bool × Unit) × Unit) × Unit) × Int × (Int × (Int × Int × Int × Int × Unit) × Unit) × Int × List Int × Unit)))))))))) else gd (List.length d5.2.2.2.2.1 = List.length d5.2.2.2.2.1) (some (Lp.out (Lp.go ((d5.1, d5.2.1, d5.2.2.1, wr IntKind.i64 (d4.2.2.2.1 + (1 : Int)), d5.2.2.2.2.1, ()) : (((Int × Bool × Unit) × (Int × Bool × Unit) × (Int × Bool × Unit) × (Int × Bool × Unit) × Unit) × ((Int × Bool × Unit) × (Int × Bool × Unit) × (Int × Bool × Unit) × (Int × Bool × Unit) × Unit) × ((Int × Bool × Unit) × (Int × Bool × Unit) × (Int × Bool × Unit) × (Int × Bool × Unit) × Unit) × ((Int × Bool × Unit) × (Int × Bool × Unit) × (Int × Bool × Unit) × (Int × Bool × Unit) × Unit) × Unit) × Int × (Int × (Int × Int × Int × Int × Unit) × Unit) × Int × List Int × Unit))))
noncomputable def g59a (x0 : Int) (x1 : ((Int × Bool × Unit) × (Int × Bool × Unit) × (Int × Bool × Unit) × (Int × Bool × Unit) × Unit) × ((Int × Bool × Unit) × (Int × Bool × Unit) × (Int × Bool × Unit) × (Int × Bool × Unit) × Unit) × ((Int × Bool × Unit) × (Int × Bool × Unit) × (Int × Bool × Unit) × (Int × Bool × Unit) × Unit) × ((Int × Bool × Unit) × (Int × Bool × Unit) × (Int × Bool × Unit) × (Int × Bool × Unit) × Unit) × Unit) (x2 : Int) (x3 : Int × (Int × Int × Int × Int × Unit) × Unit) : Option (List Int × Unit) := gd ((0 : Int) ≤ x0 ∧ x0 ≤ x0 ∧ x0 * (8 : Int) ≤ (1099511627776 : Int)) (gd (Int.toNat x0 = List.length (List.replicate (Int.toNat x0) (0 : Int))) (whileO (fun (d4 : (((Int × Bool × Unit) × (Int × Bool × Unit) × (Int × Bool × Unit) × (Int × Bool × Unit) × Unit) × ((Int × Bool × Unit) × (Int × Bool × Unit) × (Int × Bool × Unit) × (Int × Bool × Unit) × Unit) × ((Int × Bool × Unit) × (Int × Bool × Unit) × (Int × Bool × Unit) × (Int × Bool × Unit) × Unit) × ((Int × Bool × Unit) × (Int × Bool × Unit) × (Int × Bool × Unit) × (Int × Bool × Unit) × Unit) × Unit) × Int × (Int × (Int × Int × Int × Int × Unit) × Unit) × Int × List Int × Unit) => bif ilt d4.2.2.2.1 x0 then gd (List.length d4.2.2.2.2.1 = List.length d4.2.2.2.2.1) (whileO (g59a_l0 x0 d4) ((d4.1, d4.2.1, d4.2.2.1, (0 : Int), d4.2.2.2.2.1, ()) : (((Int × Bool × Unit) × (Int × Bool × Unit) × (Int × Bool × Unit) × (Int × Bool × Unit) × Unit) × ((Int × Bool × Unit) × (Int × Bool × Unit) × (Int × Bool × Unit) × (Int × Bool × Unit) × Unit) × ((Int × Bool × Unit) × (Int × Bool × Unit) × (Int × Bool × Unit) × (Int × Bool × Unit) × Unit) × ((Int × Bool × Unit) × (Int × Bool × Unit) × (Int × Bool × Unit) × (Int × Bool × Unit) × Unit) × Unit) × Int × (Int × (Int × Int × Int × Int × Unit) × Unit) × Int × List Int × Unit)) else gd ((0 : Nat) + List.length d4.2.2.2.2.1 ≤ List.length d4.2.2.2.2.1) (some (Lp.out ((List.take (List.length d4.2.2.2.2.1) (List.drop (0 : Nat) d4.2.2.2.2.1), ()) : List Int × Unit)))) ((x1, x2, x3, (0 : Int), List.replicate (Int.toNat x0) (0 : Int), ()) : (((Int × Bool × Unit) × (Int × Bool × Unit) × (Int × Bool × Unit) × (Int × Bool × Unit) × Unit) × ((Int × Bool × Unit) × (Int × Bool × Unit) × (Int × Bool × Unit) × (Int × Bool × Unit) × Unit) × ((Int × Bool × Unit) × (Int × Bool × Unit) × (Int × Bool × Unit) × (Int × Bool × Unit) × Unit) × ((Int × Bool × Unit) × (Int × Bool × Unit) × (Int × Bool × Unit) × (Int × Bool × Unit) × Unit) × Unit) × Int × (Int × (Int × Int × Int × Int × Unit) × Unit) × Int × List Int × Unit)))
noncomputable def g59a_sh : List LSh := LSh.mk (((1, TV.fn (76) (TV.cons (TV.v (Ty.ptr (Ty.prod (Ty.prod (Ty.prod (Ty.int IntKind.i64) (Ty.prod Ty.bool Ty.unit)) (Ty.prod (Ty.prod (Ty.int IntKind.i64) (Ty.prod Ty.bool Ty.unit)) (Ty.prod (Ty.prod (Ty.int IntKind.i64) (Ty.prod Ty.bool Ty.unit)) (Ty.prod (Ty.prod (Ty.int IntKind.i64) (Ty.prod Ty.bool Ty.unit)) Ty.unit)))) (Ty.prod (Ty.prod (Ty.prod (Ty.int IntKind.i64) (Ty.prod Ty.bool Ty.unit)) (Ty.prod (Ty.prod (Ty.int IntKind.i64) (Ty.prod Ty.bool Ty.unit)) (Ty.prod (Ty.prod (Ty.int IntKind.i64) (Ty.prod Ty.bool Ty.unit)) (Ty.prod (Ty.prod (Ty.int IntKind.i64) (Ty.prod Ty.bool Ty.unit)) Ty.unit)))) (Ty.prod (Ty.prod (Ty.prod (Ty.int IntKind.i64) (Ty.prod Ty.bool Ty.unit)) (Ty.prod (Ty.prod (Ty.int IntKind.i64) (Ty.prod Ty.bool Ty.unit)) (Ty.prod (Ty.prod (Ty.int IntKind.i64) (Ty.prod Ty.bool Ty.unit)) (Ty.prod (Ty.prod (Ty.int IntKind.i64) (Ty.prod Ty.bool Ty.unit)) Ty.unit)))) (Ty.prod (Ty.prod (Ty.prod (Ty.int IntKind.i64) (Ty.prod Ty.bool Ty.unit)) (Ty.prod (Ty.prod (Ty.int IntKind.i64) (Ty.prod Ty.bool Ty.unit)) (Ty.prod (Ty.prod (Ty.int IntKind.i64) (Ty.prod Ty.bool Ty.unit)) (Ty.prod (Ty.prod (Ty.int IntKind.i64) (Ty.prod Ty.bool Ty.unit)) Ty.unit)))) Ty.unit)))))) (TV.cons (TV.v (Ty.ptr (Ty.int IntKind.i64))) (TV.cons (TV.v (Ty.ptr (Ty.prod (Ty.int IntKind.i64) (Ty.prod (Ty.prod (Ty.int IntKind.i64) (Ty.prod (Ty.int IntKind.i64) (Ty.prod (Ty.int IntKind.i64) (Ty.prod (Ty.int IntKind.i64) Ty.unit)))) Ty.unit)))) TV.nil)))) : Nat × TV) :: ((5, TV.slf (0) (1)) : Nat × TV) :: ((11, TV.v (Ty.int IntKind.i64)) : Nat × TV) :: ([] : List (Nat × TV))) (TB.arr (Ty.int IntKind.i64) true :: ([] : List TB)) :: LSh.mk (((1, TV.fn (76) (TV.cons (TV.v (Ty.ptr (Ty.prod (Ty.prod (Ty.prod (Ty.int IntKind.i64) (Ty.prod Ty.bool Ty.unit)) (Ty.prod (Ty.prod (Ty.int IntKind.i64) (Ty.prod Ty.bool Ty.unit)) (Ty.prod (Ty.prod (Ty.int IntKind.i64) (Ty.prod Ty.bool Ty.unit)) (Ty.prod (Ty.prod (Ty.int IntKind.i64) (Ty.prod Ty.bool Ty.unit)) Ty.unit)))) (Ty.prod (Ty.prod (Ty.prod (Ty.int IntKind.i64) (Ty.prod Ty.bool Ty.unit)) (Ty.prod (Ty.prod (Ty.int IntKind.i64) (Ty.prod Ty.bool Ty.unit)) (Ty.prod (Ty.prod (Ty.int IntKind.i64) (Ty.prod Ty.bool Ty.unit)) (Ty.prod (Ty.prod (Ty.int IntKind.i64) (Ty.prod Ty.bool Ty.unit)) Ty.unit)))) (Ty.prod (Ty.prod (Ty.prod (Ty.int IntKind.i64) (Ty.prod Ty.bool Ty.unit)) (Ty.prod (Ty.prod (Ty.int IntKind.i64) (Ty.prod Ty.bool Ty.unit)) (Ty.prod (Ty.prod (Ty.int IntKind.i64) (Ty.prod Ty.bool Ty.unit)) (Ty.prod (Ty.prod (Ty.int IntKind.i64) (Ty.prod Ty.bool Ty.unit)) Ty.unit)))) (Ty.prod (Ty.prod (Ty.prod (Ty.int IntKind.i64) (Ty.prod Ty.bool Ty.unit)) (Ty.prod (Ty.prod (Ty.int IntKind.i64) (Ty.prod Ty.bool Ty.unit)) (Ty.prod (Ty.prod (Ty.int IntKind.i64) (Ty.prod Ty.bool Ty.unit)) (Ty.prod (Ty.prod (Ty.int IntKind.i64) (Ty.prod Ty.bool Ty.unit)) Ty.unit)))) Ty.unit)))))) (TV.cons (TV.v (Ty.ptr (Ty.int IntKind.i64))) (TV.cons (TV.v (Ty.ptr (Ty.prod (Ty.int IntKind.i64) (Ty.prod (Ty.prod (Ty.int IntKind.i64) (Ty.prod (Ty.int IntKind.i64) (Ty.prod (Ty.int IntKind.i64) (Ty.prod (Ty.int IntKind.i64) Ty.unit)))) Ty.unit)))) TV.nil)))) : Nat × TV) :: ((5, TV.slf (0) (1)) : Nat × TV) :: ((15, TV.v (Ty.int IntKind.i64)) : Nat × TV) :: ([] : List (Nat × TV))) (TB.arr (Ty.int IntKind.i64) true :: ([] : List TB)) :: ([] : List LSh)
def arrF (q : QtD) : List Int := madeF (4 * q.1).toNat (arrB q)
def arrX (q : QtD) : List Int × Int × Unit := if valQ q = true then (if q.1 ≤ 4 then (arrF q, 0, ()) else ([], 6, ())) else ([], 2, ())
noncomputable def con36 : Con := mkC 36 [.d I64, .d A4] [LI, I64] (fun (m : Int) (s : A4D) => []) (fun (m : Int) (s : A4D) => arrX (m, s, ()))
noncomputable def g36 (x0 : Int) (x1 : Int × Int × Int × Int × Unit) : Option (List Int × Int × Unit) := gd ((4 : Nat) ≤ (4 : Nat)) (gd ((5 : Nat) ≤ (5 : Nat)) (gd ((5 : Nat) ≤ (5 : Nat)) (bif !valQ ((x0, ((x1.1, x1.2.1, x1.2.2.1, x1.2.2.2.1, ()) : Int × Int × Int × Int × Unit), ()) : Int × (Int × Int × Int × Int × Unit) × Unit) then some ((([] : List Int), (2 : Int), ()) : List Int × Int × Unit) else bif ilt (16 : Int) (wr IntKind.i64 ((4 : Int) * x0)) then some ((([] : List Int), (6 : Int), ()) : List Int × Int × Unit) else gd ((5 : Nat) ≤ (5 : Nat)) (gd (((((((whereC.1.1.1, whereC.1.1.2.1, ()) : Int × Bool × Unit), ((whereC.1.2.1.1, whereC.1.2.1.2.1, ()) : Int × Bool × Unit), ((whereC.1.2.2.1.1, whereC.1.2.2.1.2.1, ()) : Int × Bool × Unit), ((whereC.1.2.2.2.1.1, whereC.1.2.2.2.1.2.1, ()) : Int × Bool × Unit), ()) : (Int × Bool × Unit) × (Int × Bool × Unit) × (Int × Bool × Unit) × (Int × Bool × Unit) × Unit), ((((whereC.2.1.1.1, whereC.2.1.1.2.1, ()) : Int × Bool × Unit), ((whereC.2.1.2.1.1, whereC.2.1.2.1.2.1, ()) : Int × Bool × Unit), ((whereC.2.1.2.2.1.1, whereC.2.1.2.2.1.2.1, ()) : Int × Bool × Unit), ((whereC.2.1.2.2.2.1.1, whereC.2.1.2.2.2.1.2.1, ()) : Int × Bool × Unit), ()) : (Int × Bool × Unit) × (Int × Bool × Unit) × (Int × Bool × Unit) × (Int × Bool × Unit) × Unit), ((((whereC.2.2.1.1.1, whereC.2.2.1.1.2.1, ()) : Int × Bool × Unit), ((whereC.2.2.1.2.1.1, whereC.2.2.1.2.1.2.1, ()) : Int × Bool × Unit), ((whereC.2.2.1.2.2.1.1, whereC.2.2.1.2.2.1.2.1, ()) : Int × Bool × Unit), ((whereC.2.2.1.2.2.2.1.1, whereC.2.2.1.2.2.2.1.2.1, ()) : Int × Bool × Unit), ()) : (Int × Bool × Unit) × (Int × Bool × Unit) × (Int × Bool × Unit) × (Int × Bool × Unit) × Unit), ((((whereC.2.2.2.1.1.1, whereC.2.2.2.1.1.2.1, ()) : Int × Bool × Unit), ((whereC.2.2.2.1.2.1.1, whereC.2.2.2.1.2.1.2.1, ()) : Int × Bool × Unit), ((whereC.2.2.2.1.2.2.1.1, whereC.2.2.2.1.2.2.1.2.1, ()) : Int × Bool × Unit), ((whereC.2.2.2.1.2.2.2.1.1, whereC.2.2.2.1.2.2.2.1.2.1, ()) : Int × Bool × Unit), ()) : (Int × Bool × Unit) × (Int × Bool × Unit) × (Int × Bool × Unit) × (Int × Bool × Unit) × Unit), ()) : ((Int × Bool × Unit) × (Int × Bool × Unit) × (Int × Bool × Unit) × (Int × Bool × Unit) × Unit) × ((Int × Bool × Unit) × (Int × Bool × Unit) × (Int × Bool × Unit) × (Int × Bool × Unit) × Unit) × ((Int × Bool × Unit) × (Int × Bool × Unit) × (Int × Bool × Unit) × (Int × Bool × Unit) × Unit) × ((Int × Bool × Unit) × (Int × Bool × Unit) × (Int × Bool × Unit) × (Int × Bool × Unit) × Unit) × Unit) = whereC) (gd (x0 = x0) (gd (valQ ((x0, ((x1.1, x1.2.1, x1.2.2.1, x1.2.2.2.1, ()) : Int × Int × Int × Int × Unit), ()) : Int × (Int × Int × Int × Int × Unit) × Unit) = true) (gd (wr IntKind.i64 ((4 : Int) * x0) = (4 : Int) * x0) (gd (wr IntKind.i64 ((4 : Int) * x0) ≤ (16 : Int)) (some ((madeF (Int.toNat (wr IntKind.i64 ((4 : Int) * x0))) (arrB ((x0, ((x1.1, x1.2.1, x1.2.2.1, x1.2.2.2.1, ()) : Int × Int × Int × Int × Unit), ()) : Int × (Int × Int × Int × Int × Unit) × Unit)), (0 : Int), ()) : List Int × Int × Unit))))))))))
noncomputable def g36_sh : List LSh := ([] : List LSh)
noncomputable def con37 : Con := mkC 37 [.d I64, .d I64] [.bool] (fun (m s : Int) => []) (fun (m s : Int) => (is135 m && seqB m s, ()))
noncomputable def g37 (x0 x1 : Int) : Option (Bool × Unit) := gd ((!ieq x0 (1 : Int)) = true → (!ieq x0 (1 : Int)) = true) (gd ((!ieq x0 (1 : Int)) = true → (!ieq x0 (1 : Int)) = true) (gd ((bif !ieq x0 (1 : Int) then !ieq x0 (3 : Int) else false) = true → (bif !ieq x0 (1 : Int) then !ieq x0 (3 : Int) else false) = true) (gd ((bif !ieq x0 (1 : Int) then !ieq x0 (3 : Int) else false) = true → (bif !ieq x0 (1 : Int) then !ieq x0 (3 : Int) else false) = true) (gd ((!bif bif !ieq x0 (1 : Int) then !ieq x0 (3 : Int) else false then !ieq x0 (5 : Int) else false) = true → (!bif bif !ieq x0 (1 : Int) then !ieq x0 (3 : Int) else false then !ieq x0 (5 : Int) else false) = true) (gd ((bif bif !ieq x0 (1 : Int) then !ieq x0 (3 : Int) else false then !ieq x0 (5 : Int) else false) = false → (!bif bif !ieq x0 (1 : Int) then !ieq x0 (3 : Int) else false then !ieq x0 (5 : Int) else false) = true) (gd ((!bif bif bif !ieq x0 (1 : Int) then !ieq x0 (3 : Int) else false then !ieq x0 (5 : Int) else false then true else ilt x1 (0 : Int)) = true → (!bif bif bif !ieq x0 (1 : Int) then !ieq x0 (3 : Int) else false then !ieq x0 (5 : Int) else false then true else ilt x1 (0 : Int)) = true ∧ (0 : Int) ≤ x0) (gd ((!bif bif bif !ieq x0 (1 : Int) then !ieq x0 (3 : Int) else false then !ieq x0 (5 : Int) else false then true else ilt x1 (0 : Int)) = true → (!bif bif bif !ieq x0 (1 : Int) then !ieq x0 (3 : Int) else false then !ieq x0 (5 : Int) else false then true else ilt x1 (0 : Int)) = true ∧ (!bif bif bif !ieq x0 (1 : Int) then !ieq x0 (3 : Int) else false then !ieq x0 (5 : Int) else false then true else ilt x1 (0 : Int)) = true) (gd ((bif bif bif !ieq x0 (1 : Int) then !ieq x0 (3 : Int) else false then !ieq x0 (5 : Int) else false then true else ilt x1 (0 : Int)) = false → (!bif bif bif !ieq x0 (1 : Int) then !ieq x0 (3 : Int) else false then !ieq x0 (5 : Int) else false then true else ilt x1 (0 : Int)) = true) (bif bif bif bif bif !ieq x0 (1 : Int) then !ieq x0 (3 : Int) else false then !ieq x0 (5 : Int) else false then true else ilt x1 (0 : Int) then true else ile (ishl IntKind.i64 (1 : Int) x0) x1 then some ((false, ()) : Bool × Unit) else whileO (fun (d2 : Int × Unit) => bif ilt d2.1 x0 then gd ((0 : Int) ≤ d2.1) (gd ((0 : Int) ≤ wr IntKind.i64 (x0 - d2.1)) (bif !ieq (iand IntKind.i64 (ishr IntKind.i64 x1 d2.1) (1 : Int)) (iand IntKind.i64 (ishr IntKind.i64 x1 (wr IntKind.i64 (x0 - d2.1))) (1 : Int)) then some (Lp.out ((false, ()) : Bool × Unit)) else some (Lp.go ((wr IntKind.i64 (d2.1 + (1 : Int)), ()) : Int × Unit)))) else some (Lp.out ((true, ()) : Bool × Unit))) (((1 : Int), ()) : Int × Unit))))))))))
noncomputable def g37_sh : List LSh := LSh.mk (((5, TV.v (Ty.int IntKind.i64)) : Nat × TV) :: ([] : List (Nat × TV))) ([] : List TB) :: ([] : List LSh)
noncomputable def con78 : Con := mkC 78 [.d I64, .d I64, .d I64, .d I64] [I64] (fun (m s i j : Int) => [is135 m = true, 0 ≤ s, s < 65536, 0 ≤ i, i < m, 0 ≤ j, j < m]) (fun (m s i j : Int) => (sgT s ((j - i) % m), ()))
noncomputable def g78 (x0 x1 x2 x3 : Int) : Option (Int × Unit) := gd (x0 ≠ (0 : Int)) (gd ((0 : Int) ≤ Int.tmod (wr IntKind.i64 (wr IntKind.i64 (x3 - x2) + x0)) x0) (some ((wr IntKind.i64 ((1 : Int) - wr IntKind.i64 ((2 : Int) * iand IntKind.i64 (ishr IntKind.i64 x1 (Int.tmod (wr IntKind.i64 (wr IntKind.i64 (x3 - x2) + x0)) x0)) (1 : Int))), ()) : Int × Unit)))
noncomputable def g78_sh : List LSh := ([] : List LSh)
noncomputable def con38 : Con := mkC 38 [.d I64, .d A4] [.bool] (fun (m : Int) (s : A4D) => [valQ (m, s, ()) = true]) (fun (m : Int) (s : A4D) => (goodF (m, s, ()), ()))
noncomputable def g38_l0 (x0 : Int) (d2 d3 : Int × List Int × Unit) (d4 d5 : Int × Int × List Int × Unit) : Option (Lp (Int × Int × List Int × Unit) (Lp (Int × Int × List Int × Unit) (Lp (Int × List Int × Unit) (Lp (Int × List Int × Unit) (Bool × Unit))))) := bif ilt d5.2.1 x0 then gd (is135 x0 = true) (gd ((0 : Int) ≤ (@id Int (arrGet (4 : Nat) (Ty.int IntKind.i64) (((List.getD d3.2.1 (0 : Nat) (0 : Int), List.getD d3.2.1 (1 : Nat) (0 : Int), List.getD d3.2.1 (2 : Nat) (0 : Int), List.getD d3.2.1 (3 : Nat) (0 : Int), ()) : Int × Int × Int × Int × Unit) : Int × Int × Int × Int × Unit) (Int.toNat d4.2.1)))) (gd ((@id Int (arrGet (4 : Nat) (Ty.int IntKind.i64) (((List.getD d3.2.1 (0 : Nat) (0 : Int), List.getD d3.2.1 (1 : Nat) (0 : Int), List.getD d3.2.1 (2 : Nat) (0 : Int), List.getD d3.2.1 (3 : Nat) (0 : Int), ()) : Int × Int × Int × Int × Unit) : Int × Int × Int × Int × Unit) (Int.toNat d4.2.1))) < (65536 : Int)) (gd ((0 : Int) ≤ d2.1) (gd (d2.1 < x0) (gd ((0 : Int) ≤ d5.2.1) (gd (d5.2.1 < x0) (gd (is135 x0 = true) (gd ((0 : Int) ≤ (@id Int (arrGet (4 : Nat) (Ty.int IntKind.i64) (((List.getD d3.2.1 (0 : Nat) (0 : Int), List.getD d3.2.1 (1 : Nat) (0 : Int), List.getD d3.2.1 (2 : Nat) (0 : Int), List.getD d3.2.1 (3 : Nat) (0 : Int), ()) : Int × Int × Int × Int × Unit) : Int × Int × Int × Int × Unit) (Int.toNat d4.2.1)))) (gd ((@id Int (arrGet (4 : Nat) (Ty.int IntKind.i64) (((List.getD d3.2.1 (0 : Nat) (0 : Int), List.getD d3.2.1 (1 : Nat) (0 : Int), List.getD d3.2.1 (2 : Nat) (0 : Int), List.getD d3.2.1 (3 : Nat) (0 : Int), ()) : Int × Int × Int × Int × Unit) : Int × Int × Int × Int × Unit) (Int.toNat d4.2.1))) < (65536 : Int)) (gd ((0 : Int) ≤ d5.2.1) (gd (d5.2.1 < x0) (gd ((0 : Int) ≤ d3.1) (gd (d3.1 < x0) (some (Lp.go ((wr IntKind.i64 (d5.1 + wr IntKind.i64 (sgT (@id Int (arrGet (4 : Nat) (Ty.int IntKind.i64) (((List.getD d3.2.1 (0 : Nat) (0 : Int), List.getD d3.2.1 (1 : Nat) (0 : Int), List.getD d3.2.1 (2 : Nat) (0 : Int), List.getD d3.2.1 (3 : Nat) (0 : Int), ()) : Int × Int × Int × Int × Unit) : Int × Int × Int × Int × Unit) (Int.toNat d4.2.1))) ((d5.2.1 - d2.1) % x0) * sgT (@id Int (arrGet (4 : Nat) (Ty.int IntKind.i64) (((List.getD d3.2.1 (0 : Nat) (0 : Int), List.getD d3.2.1 (1 : Nat) (0 : Int), List.getD d3.2.1 (2 : Nat) (0 : Int), List.getD d3.2.1 (3 : Nat) (0 : Int), ()) : Int × Int × Int × Int × Unit) : Int × Int × Int × Int × Unit) (Int.toNat d4.2.1))) ((d3.1 - d5.2.1) % x0))), wr IntKind.i64 (d5.2.1 + (1 : Int)), d5.2.2.1, ()) : Int × Int × List Int × Unit)))))))))))))))) else some (Lp.out (Lp.go ((d5.1, wr IntKind.i64 (d4.2.1 + (1 : Int)), d5.2.2.1, ()) : Int × Int × List Int × Unit)))
noncomputable def g38_l1 (x0 : Int) (d2 d3 : Int × List Int × Unit) (d4 : Int × Int × List Int × Unit) : Option (Lp (Int × Int × List Int × Unit) (Lp (Int × List Int × Unit) (Lp (Int × List Int × Unit) (Bool × Unit)))) := bif ilt d4.2.1 (4 : Int) then gd ((0 : Int) ≤ d4.2.1 ∧ d4.2.1 < (4 : Int)) (whileO (g38_l0 x0 d2 d3 d4) ((d4.1, (0 : Int), d4.2.2.1, ()) : Int × Int × List Int × Unit)) else gd (ieq d2.1 d3.1 = true → ieq d2.1 d3.1 = true) (gd (ieq d2.1 d3.1 = true → ieq d2.1 d3.1 = true ∧ ieq d2.1 d3.1 = true) (gd (ieq d2.1 d3.1 = true → ieq d2.1 d3.1 = true) (gd ((!bif ieq d2.1 d3.1 then !ieq d4.1 (wr IntKind.i64 ((4 : Int) * x0)) else false) = true → (!bif ieq d2.1 d3.1 then !ieq d4.1 (wr IntKind.i64 ((4 : Int) * x0)) else false) = true ∧ (!bif ieq d2.1 d3.1 then !ieq d4.1 (wr IntKind.i64 ((4 : Int) * x0)) else false) = true) (gd (((!bif ieq d2.1 d3.1 then !ieq d4.1 (wr IntKind.i64 ((4 : Int) * x0)) else false) && ((!bif ieq d2.1 d3.1 then !ieq d4.1 (wr IntKind.i64 ((4 : Int) * x0)) else false) && !ieq d2.1 d3.1)) = true → ((!bif ieq d2.1 d3.1 then !ieq d4.1 (wr IntKind.i64 ((4 : Int) * x0)) else false) && ((!bif ieq d2.1 d3.1 then !ieq d4.1 (wr IntKind.i64 ((4 : Int) * x0)) else false) && !ieq d2.1 d3.1)) = true) (gd ((!bif ieq d2.1 d3.1 then !ieq d4.1 (wr IntKind.i64 ((4 : Int) * x0)) else false) = true → (!bif ieq d2.1 d3.1 then !ieq d4.1 (wr IntKind.i64 ((4 : Int) * x0)) else false) = true ∧ (!bif ieq d2.1 d3.1 then !ieq d4.1 (wr IntKind.i64 ((4 : Int) * x0)) else false) = true ∧ ((!ieq d2.1 d3.1) = true → ((!bif ieq d2.1 d3.1 then !ieq d4.1 (wr IntKind.i64 ((4 : Int) * x0)) else false) && ((!bif ieq d2.1 d3.1 then !ieq d4.1 (wr IntKind.i64 ((4 : Int) * x0)) else false) && !ieq d2.1 d3.1)) = true)) (gd ((bif ieq d2.1 d3.1 then !ieq d4.1 (wr IntKind.i64 ((4 : Int) * x0)) else false) = false → (!bif ieq d2.1 d3.1 then !ieq d4.1 (wr IntKind.i64 ((4 : Int) * x0)) else false) = true) (bif bif bif ieq d2.1 d3.1 then !ieq d4.1 (wr IntKind.i64 ((4 : Int) * x0)) else false then true else bif !ieq d2.1 d3.1 then !ieq d4.1 (0 : Int) else false then some (Lp.out (Lp.out (Lp.out ((false, ()) : Bool × Unit)))) else some (Lp.out (Lp.go ((wr IntKind.i64 (d3.1 + (1 : Int)), d4.2.2.1, ()) : Int × List Int × Unit))))))))))
noncomputable def g38_l2 (x0 : Int) (d2 d3 : Int × List Int × Unit) : Option (Lp (Int × List Int × Unit) (Lp (Int × List Int × Unit) (Bool × Unit))) := bif ilt d3.1 x0 then gd ((4 : Nat) ≤ List.length d3.2.1) (whileO (g38_l1 x0 d2 d3) (((0 : Int), (0 : Int), d3.2.1, ()) : Int × Int × List Int × Unit)) else some (Lp.out (Lp.go ((wr IntKind.i64 (d2.1 + (1 : Int)), d3.2.1, ()) : Int × List Int × Unit)))
noncomputable def g38 (x0 : Int) (x1 : Int × Int × Int × Int × Unit) : Option (Bool × Unit) := whileO (fun (d2 : Int × List Int × Unit) => bif ilt d2.1 x0 then whileO (g38_l2 x0 d2) (((0 : Int), d2.2.1, ()) : Int × List Int × Unit) else some (Lp.out ((true, ()) : Bool × Unit))) (((0 : Int), x1.1 :: x1.2.1 :: x1.2.2.1 :: x1.2.2.2.1 :: ([] : List Int), ()) : Int × List Int × Unit)
noncomputable def g38_sh : List LSh := LSh.mk (((3, TV.ref (0) (1 : Nat) (0 : Nat) (0 : Nat)) : Nat × TV) :: ((12, TV.v (Ty.int IntKind.i64)) : Nat × TV) :: ([] : List (Nat × TV))) (TB.arr (Ty.int IntKind.i64) false :: ([] : List TB)) :: LSh.mk (((3, TV.ref (0) (1 : Nat) (0 : Nat) (0 : Nat)) : Nat × TV) :: ((16, TV.v (Ty.int IntKind.i64)) : Nat × TV) :: ([] : List (Nat × TV))) (TB.arr (Ty.int IntKind.i64) false :: ([] : List TB)) :: LSh.mk (((3, TV.ref (0) (1 : Nat) (0 : Nat) (0 : Nat)) : Nat × TV) :: ((7, TV.v (Ty.int IntKind.i64)) : Nat × TV) :: ((20, TV.v (Ty.int IntKind.i64)) : Nat × TV) :: ([] : List (Nat × TV))) (TB.arr (Ty.int IntKind.i64) false :: ([] : List TB)) :: LSh.mk (((3, TV.ref (0) (1 : Nat) (0 : Nat) (0 : Nat)) : Nat × TV) :: ((7, TV.v (Ty.int IntKind.i64)) : Nat × TV) :: ((24, TV.v (Ty.int IntKind.i64)) : Nat × TV) :: ([] : List (Nat × TV))) (TB.arr (Ty.int IntKind.i64) false :: ([] : List TB)) :: ([] : List LSh)
noncomputable def con39 : Con := mkC 39 [.d I64, .d A4] [LI] (fun (m : Int) (s : A4D) => [valQ (m, s, ()) = true, m ≤ 4]) (fun (m : Int) (s : A4D) => (arrF (m, s, ()), ()))
noncomputable def g39_l0 (x0 : Int) (d2 d3 : Int × List Int × List Int × List Int × List Int × Unit) : Option (Lp (Int × List Int × List Int × List Int × List Int × Unit) (Lp (Int × List Int × List Int × List Int × List Int × Unit) (List Int × Unit))) := bif ilt d3.1 (↑(List.length d2.2.2.2.2.1) : Int) then gd (x0 ≠ (0 : Int)) (gd (x0 ≠ (0 : Int)) (gd ((0 : Int) ≤ wr IntKind.i64 (Int.tdiv d2.1 x0) ∧ wr IntKind.i64 (Int.tdiv d2.1 x0) < (4 : Int)) (gd ((0 : Int) ≤ wr IntKind.i64 (Int.tdiv d3.1 x0) ∧ wr IntKind.i64 (Int.tdiv d3.1 x0) < (4 : Int)) (gd ((0 : Nat) + Int.toNat (wr IntKind.i64 (Int.tdiv d2.1 x0)) * (4 : Nat) + Int.toNat (wr IntKind.i64 (Int.tdiv d3.1 x0)) * (1 : Nat) < List.length d3.2.2.2.1) (gd (x0 ≠ (0 : Int)) (gd (x0 ≠ (0 : Int)) (gd ((0 : Int) ≤ wr IntKind.i64 (Int.tdiv d2.1 x0) ∧ wr IntKind.i64 (Int.tdiv d2.1 x0) < (4 : Int)) (gd ((0 : Int) ≤ wr IntKind.i64 (Int.tdiv d3.1 x0) ∧ wr IntKind.i64 (Int.tdiv d3.1 x0) < (4 : Int)) (gd ((0 : Nat) + Int.toNat (wr IntKind.i64 (Int.tdiv d2.1 x0)) * (4 : Nat) + Int.toNat (wr IntKind.i64 (Int.tdiv d3.1 x0)) * (1 : Nat) < List.length d3.2.2.1) (gd ((0 : Int) ≤ List.getD d3.2.2.1 ((0 : Nat) + Int.toNat (wr IntKind.i64 (Int.tdiv d2.1 x0)) * (4 : Nat) + Int.toNat (wr IntKind.i64 (Int.tdiv d3.1 x0)) * (1 : Nat)) (0 : Int) ∧ List.getD d3.2.2.1 ((0 : Nat) + Int.toNat (wr IntKind.i64 (Int.tdiv d2.1 x0)) * (4 : Nat) + Int.toNat (wr IntKind.i64 (Int.tdiv d3.1 x0)) * (1 : Nat)) (0 : Int) < (4 : Int)) (gd ((0 : Nat) + Int.toNat (List.getD d3.2.2.1 ((0 : Nat) + Int.toNat (wr IntKind.i64 (Int.tdiv d2.1 x0)) * (4 : Nat) + Int.toNat (wr IntKind.i64 (Int.tdiv d3.1 x0)) * (1 : Nat)) (0 : Int)) * (1 : Nat) < List.length d3.2.1) (gd (x0 ≠ (0 : Int)) (gd (x0 ≠ (0 : Int)) (gd (is135 x0 = true) (gd ((0 : Int) ≤ List.getD d3.2.1 ((0 : Nat) + Int.toNat (List.getD d3.2.2.1 ((0 : Nat) + Int.toNat (wr IntKind.i64 (Int.tdiv d2.1 x0)) * (4 : Nat) + Int.toNat (wr IntKind.i64 (Int.tdiv d3.1 x0)) * (1 : Nat)) (0 : Int)) * (1 : Nat)) (0 : Int)) (gd (List.getD d3.2.1 ((0 : Nat) + Int.toNat (List.getD d3.2.2.1 ((0 : Nat) + Int.toNat (wr IntKind.i64 (Int.tdiv d2.1 x0)) * (4 : Nat) + Int.toNat (wr IntKind.i64 (Int.tdiv d3.1 x0)) * (1 : Nat)) (0 : Int)) * (1 : Nat)) (0 : Int) < (65536 : Int)) (gd ((0 : Int) ≤ Int.tmod d2.1 x0) (gd (Int.tmod d2.1 x0 < x0) (gd ((0 : Int) ≤ Int.tmod d3.1 x0) (gd (Int.tmod d3.1 x0 < x0) (gd (List.length d3.2.2.2.2.1 = List.length d3.2.2.2.2.1) (gd (okE d3.2.2.2.2.1 d2.1 d3.1) (gd (List.length d3.2.2.2.2.1 = List.length (putF d3.2.2.2.2.1 d2.1 d3.1 (wr IntKind.i64 (List.getD d3.2.2.2.1 ((0 : Nat) + Int.toNat (wr IntKind.i64 (Int.tdiv d2.1 x0)) * (4 : Nat) + Int.toNat (wr IntKind.i64 (Int.tdiv d3.1 x0)) * (1 : Nat)) (0 : Int) * sgT (List.getD d3.2.1 ((0 : Nat) + Int.toNat (List.getD d3.2.2.1 ((0 : Nat) + Int.toNat (wr IntKind.i64 (Int.tdiv d2.1 x0)) * (4 : Nat) + Int.toNat (wr IntKind.i64 (Int.tdiv d3.1 x0)) * (1 : Nat)) (0 : Int)) * (1 : Nat)) (0 : Int)) ((Int.tmod d3.1 x0 - Int.tmod d2.1 x0) % x0))))) (some (Lp.go ((wr IntKind.i64 (d3.1 + (1 : Int)), d3.2.1, d3.2.2.1, d3.2.2.2.1, putF d3.2.2.2.2.1 d2.1 d3.1 (wr IntKind.i64 (List.getD d3.2.2.2.1 ((0 : Nat) + Int.toNat (wr IntKind.i64 (Int.tdiv d2.1 x0)) * (4 : Nat) + Int.toNat (wr IntKind.i64 (Int.tdiv d3.1 x0)) * (1 : Nat)) (0 : Int) * sgT (List.getD d3.2.1 ((0 : Nat) + Int.toNat (List.getD d3.2.2.1 ((0 : Nat) + Int.toNat (wr IntKind.i64 (Int.tdiv d2.1 x0)) * (4 : Nat) + Int.toNat (wr IntKind.i64 (Int.tdiv d3.1 x0)) * (1 : Nat)) (0 : Int)) * (1 : Nat)) (0 : Int)) ((Int.tmod d3.1 x0 - Int.tmod d2.1 x0) % x0))), ()) : Int × List Int × List Int × List Int × List Int × Unit)))))))))))))))))))))))))) else gd (List.length d3.2.2.2.2.1 = List.length d3.2.2.2.2.1) (some (Lp.out (Lp.go ((wr IntKind.i64 (d2.1 + (1 : Int)), d3.2.1, d3.2.2.1, d3.2.2.2.1, d3.2.2.2.2.1, ()) : Int × List Int × List Int × List Int × List Int × Unit))))
noncomputable def g39 (x0 : Int) (x1 : Int × Int × Int × Int × Unit) : Option (List Int × Unit) := gd ((16 : Nat) ≤ (16 : Nat)) (gd ((16 : Nat) ≤ (16 : Nat)) (gd ((0 : Int) ≤ wr IntKind.i64 ((4 : Int) * x0) ∧ wr IntKind.i64 ((4 : Int) * x0) ≤ wr IntKind.i64 ((4 : Int) * x0) ∧ wr IntKind.i64 ((4 : Int) * x0) * (8 : Int) ≤ (1099511627776 : Int)) (gd (Int.toNat (wr IntKind.i64 ((4 : Int) * x0)) = List.length (List.replicate (Int.toNat (wr IntKind.i64 ((4 : Int) * x0))) (0 : Int))) (whileO (fun (d2 : Int × List Int × List Int × List Int × List Int × Unit) => bif ilt d2.1 (↑(Int.toNat (wr IntKind.i64 ((4 : Int) * x0))) : Int) then gd (List.length d2.2.2.2.2.1 = List.length d2.2.2.2.2.1) (whileO (g39_l0 x0 d2) (((0 : Int), d2.2.1, d2.2.2.1, d2.2.2.2.1, d2.2.2.2.2.1, ()) : Int × List Int × List Int × List Int × List Int × Unit)) else gd ((0 : Nat) + List.length d2.2.2.2.2.1 ≤ List.length d2.2.2.2.2.1) (some (Lp.out ((List.take (List.length d2.2.2.2.2.1) (List.drop (0 : Nat) d2.2.2.2.2.1), ()) : List Int × Unit)))) (((0 : Int), x1.1 :: x1.2.1 :: x1.2.2.1 :: x1.2.2.2.1 :: ([] : List Int), (0 : Int) :: (1 : Int) :: (2 : Int) :: (3 : Int) :: (1 : Int) :: (0 : Int) :: (3 : Int) :: (2 : Int) :: (2 : Int) :: (3 : Int) :: (0 : Int) :: (1 : Int) :: (3 : Int) :: (2 : Int) :: (1 : Int) :: (0 : Int) :: ([] : List Int), (1 : Int) :: (1 : Int) :: (1 : Int) :: (1 : Int) :: (-1 : Int) :: (1 : Int) :: (-1 : Int) :: (1 : Int) :: (-1 : Int) :: (1 : Int) :: (1 : Int) :: (-1 : Int) :: (-1 : Int) :: (-1 : Int) :: (1 : Int) :: (1 : Int) :: ([] : List Int), List.replicate (Int.toNat (wr IntKind.i64 ((4 : Int) * x0))) (0 : Int), ()) : Int × List Int × List Int × List Int × List Int × Unit)))))
noncomputable def g39_sh : List LSh := LSh.mk (((3, TV.ref (0) (1 : Nat) (0 : Nat) (0 : Nat)) : Nat × TV) :: ((5, TV.ref (1) (1 : Nat) (0 : Nat) (0 : Nat)) : Nat × TV) :: ((6, TV.ref (2) (1 : Nat) (0 : Nat) (0 : Nat)) : Nat × TV) :: ((7, TV.slf (3) (1)) : Nat × TV) :: ((25, TV.v (Ty.int IntKind.i64)) : Nat × TV) :: ([] : List (Nat × TV))) (TB.arr (Ty.int IntKind.i64) false :: TB.arr (Ty.int IntKind.i64) false :: TB.arr (Ty.int IntKind.i64) false :: TB.arr (Ty.int IntKind.i64) true :: ([] : List TB)) :: LSh.mk (((3, TV.ref (0) (1 : Nat) (0 : Nat) (0 : Nat)) : Nat × TV) :: ((5, TV.ref (1) (1 : Nat) (0 : Nat) (0 : Nat)) : Nat × TV) :: ((6, TV.ref (2) (1 : Nat) (0 : Nat) (0 : Nat)) : Nat × TV) :: ((7, TV.slf (3) (1)) : Nat × TV) :: ((30, TV.v (Ty.int IntKind.i64)) : Nat × TV) :: ([] : List (Nat × TV))) (TB.arr (Ty.int IntKind.i64) false :: TB.arr (Ty.int IntKind.i64) false :: TB.arr (Ty.int IntKind.i64) false :: TB.arr (Ty.int IntKind.i64) true :: ([] : List TB)) :: ([] : List LSh)
noncomputable def con7 : Con := mkC 7 [.d I64, .d A4] [.bool] (fun (m : Int) (s : A4D) => []) (fun (m : Int) (s : A4D) => (true, ()))
noncomputable def g7_c0 (x0 : Int) (x1 : Int × Int × Int × Int × Unit) : Bool := (goodX ((x0, ((x1.1, x1.2.1, x1.2.2.1, x1.2.2.2.1, ()) : Int × Int × Int × Int × Unit), ()) : Int × (Int × Int × Int × Int × Unit) × Unit)).1
noncomputable def g7_c1 (x0 : Int) (x1 : Int × Int × Int × Int × Unit) : Int := (goodX ((x0, ((x1.1, x1.2.1, x1.2.2.1, x1.2.2.2.1, ()) : Int × Int × Int × Int × Unit), ()) : Int × (Int × Int × Int × Int × Unit) × Unit)).2.1
noncomputable def g7_c2 (x0 : Int) (x1 : Int × Int × Int × Int × Unit) : Int := (arrX ((x0, ((x1.1, x1.2.1, x1.2.2.1, x1.2.2.2.1, ()) : Int × Int × Int × Int × Unit), ()) : Int × (Int × Int × Int × Int × Unit) × Unit)).2.1
noncomputable def g7_c3 (x0 : Int) (x1 : Int × Int × Int × Int × Unit) (d2 : Int × List Int × Unit) : Bool := is135 x0 && seqB x0 (@id Int (arrGet (4 : Nat) (Ty.int IntKind.i64) (((x1.1, x1.2.1, x1.2.2.1, x1.2.2.2.1, ()) : Int × Int × Int × Int × Unit) : Int × Int × Int × Int × Unit) (Int.toNat d2.1)))
noncomputable def g7_c4 (x0 : Int) (x1 : Int × Int × Int × Int × Unit) : Int := (↑(List.length (arrX ((x0, ((x1.1, x1.2.1, x1.2.2.1, x1.2.2.2.1, ()) : Int × Int × Int × Int × Unit), ()) : Int × (Int × Int × Int × Int × Unit) × Unit)).1) : Int)
noncomputable def g7_c5 (x0 : Int) (d2 : Int × List Int × Unit) : Bool := goodF ((x0, ((List.getD d2.2.1 (0 : Nat) (0 : Int), List.getD d2.2.1 (1 : Nat) (0 : Int), List.getD d2.2.1 (2 : Nat) (0 : Int), List.getD d2.2.1 (3 : Nat) (0 : Int), ()) : Int × Int × Int × Int × Unit), ()) : Int × (Int × Int × Int × Int × Unit) × Unit)
noncomputable def g7_c6 (x0 : Int) (x1 : Int × Int × Int × Int × Unit) (d2 : Int × List Int × Unit) : Bool := eqLf ieq (arrX ((x0, ((x1.1, x1.2.1, x1.2.2.1, x1.2.2.2.1, ()) : Int × Int × Int × Int × Unit), ()) : Int × (Int × Int × Int × Int × Unit) × Unit)).1 (arrF ((x0, ((List.getD d2.2.1 (0 : Nat) (0 : Int), List.getD d2.2.1 (1 : Nat) (0 : Int), List.getD d2.2.1 (2 : Nat) (0 : Int), List.getD d2.2.1 (3 : Nat) (0 : Int), ()) : Int × Int × Int × Int × Unit), ()) : Int × (Int × Int × Int × Int × Unit) × Unit))
noncomputable def g7 (x0 : Int) (x1 : Int × Int × Int × Int × Unit) : Option (Bool × Unit) := gd ((4 : Nat) ≤ (4 : Nat)) (gd ((4 : Nat) ≤ (4 : Nat)) (gd ((4 : Nat) ≤ (4 : Nat)) (whileO (fun (d2 : Int × List Int × Unit) => bif ilt d2.1 (4 : Int) then gd ((0 : Int) ≤ d2.1 ∧ d2.1 < (4 : Int)) (bif !g7_c3 x0 x1 d2 then gd ((!g7_c0 x0 x1) = true → (!g7_c0 x0 x1) = true) (gd ((!g7_c0 x0 x1) = true → (!g7_c0 x0 x1) = true) (gd ((!g7_c0 x0 x1) = true → (!g7_c0 x0 x1) = true) (gd ((bif !g7_c0 x0 x1 then ieq (g7_c4 x0 x1) (0 : Int) else false) = true → (bif !g7_c0 x0 x1 then ieq (g7_c4 x0 x1) (0 : Int) else false) = true) (gd ((bif !g7_c0 x0 x1 then ieq (g7_c4 x0 x1) (0 : Int) else false) = true → (bif !g7_c0 x0 x1 then ieq (g7_c4 x0 x1) (0 : Int) else false) = true) (gd ((bif bif !g7_c0 x0 x1 then ieq (g7_c4 x0 x1) (0 : Int) else false then ieq (g7_c1 x0 x1) (2 : Int) else false) = true → (bif bif !g7_c0 x0 x1 then ieq (g7_c4 x0 x1) (0 : Int) else false then ieq (g7_c1 x0 x1) (2 : Int) else false) = true) (gd ((bif bif !g7_c0 x0 x1 then ieq (g7_c4 x0 x1) (0 : Int) else false then ieq (g7_c1 x0 x1) (2 : Int) else false) = true → (bif bif !g7_c0 x0 x1 then ieq (g7_c4 x0 x1) (0 : Int) else false then ieq (g7_c1 x0 x1) (2 : Int) else false) = true) (gd ((bif bif bif !g7_c0 x0 x1 then ieq (g7_c4 x0 x1) (0 : Int) else false then ieq (g7_c1 x0 x1) (2 : Int) else false then ieq (g7_c2 x0 x1) (2 : Int) else false) = true → (bif bif bif !g7_c0 x0 x1 then ieq (g7_c4 x0 x1) (0 : Int) else false then ieq (g7_c1 x0 x1) (2 : Int) else false then ieq (g7_c2 x0 x1) (2 : Int) else false) = true) (some (Lp.out ((bif bif bif bif !g7_c0 x0 x1 then ieq (g7_c4 x0 x1) (0 : Int) else false then ieq (g7_c1 x0 x1) (2 : Int) else false then ieq (g7_c2 x0 x1) (2 : Int) else false then true else false, ()) : Bool × Unit)))))))))) else some (Lp.go ((wr IntKind.i64 (d2.1 + (1 : Int)), d2.2.1, ()) : Int × List Int × Unit))) else gd ((4 : Nat) ≤ List.length d2.2.1) (gd (valQ ((x0, ((List.getD d2.2.1 (0 : Nat) (0 : Int), List.getD d2.2.1 (1 : Nat) (0 : Int), List.getD d2.2.1 (2 : Nat) (0 : Int), List.getD d2.2.1 (3 : Nat) (0 : Int), ()) : Int × Int × Int × Int × Unit), ()) : Int × (Int × Int × Int × Int × Unit) × Unit) = true) (gd ((!!beqB (g7_c0 x0 x1) (g7_c5 x0 d2)) = true → (!!beqB (g7_c0 x0 x1) (g7_c5 x0 d2)) = true) (gd ((!beqB (g7_c0 x0 x1) (g7_c5 x0 d2)) = false → (!!beqB (g7_c0 x0 x1) (g7_c5 x0 d2)) = true) (gd ((!bif !beqB (g7_c0 x0 x1) (g7_c5 x0 d2) then true else !ieq (g7_c1 x0 x1) (0 : Int)) = true → (!bif !beqB (g7_c0 x0 x1) (g7_c5 x0 d2) then true else !ieq (g7_c1 x0 x1) (0 : Int)) = true) (gd ((bif !beqB (g7_c0 x0 x1) (g7_c5 x0 d2) then true else !ieq (g7_c1 x0 x1) (0 : Int)) = false → (!bif !beqB (g7_c0 x0 x1) (g7_c5 x0 d2) then true else !ieq (g7_c1 x0 x1) (0 : Int)) = true) (bif bif bif !beqB (g7_c0 x0 x1) (g7_c5 x0 d2) then true else !ieq (g7_c1 x0 x1) (0 : Int) then true else false then some (Lp.out ((false, ()) : Bool × Unit)) else bif ilt (4 : Int) x0 then gd (ieq (g7_c4 x0 x1) (0 : Int) = true → ieq (g7_c4 x0 x1) (0 : Int) = true) (gd (ieq (g7_c4 x0 x1) (0 : Int) = true → ieq (g7_c4 x0 x1) (0 : Int) = true) (some (Lp.out ((bif ieq (g7_c4 x0 x1) (0 : Int) then ieq (g7_c2 x0 x1) (6 : Int) else false, ()) : Bool × Unit)))) else gd ((4 : Nat) ≤ List.length d2.2.1) (gd (valQ ((x0, ((List.getD d2.2.1 (0 : Nat) (0 : Int), List.getD d2.2.1 (1 : Nat) (0 : Int), List.getD d2.2.1 (2 : Nat) (0 : Int), List.getD d2.2.1 (3 : Nat) (0 : Int), ()) : Int × Int × Int × Int × Unit), ()) : Int × (Int × Int × Int × Int × Unit) × Unit) = true) (gd (x0 ≤ (4 : Int)) (gd (small (arrX ((x0, ((x1.1, x1.2.1, x1.2.2.1, x1.2.2.2.1, ()) : Int × Int × Int × Int × Unit), ()) : Int × (Int × Int × Int × Int × Unit) × Unit)).1) (gd (small (arrF ((x0, ((List.getD d2.2.1 (0 : Nat) (0 : Int), List.getD d2.2.1 (1 : Nat) (0 : Int), List.getD d2.2.1 (2 : Nat) (0 : Int), List.getD d2.2.1 (3 : Nat) (0 : Int), ()) : Int × Int × Int × Int × Unit), ()) : Int × (Int × Int × Int × Int × Unit) × Unit))) (gd (g7_c6 x0 x1 d2 = true → g7_c6 x0 x1 d2 = true) (gd (g7_c6 x0 x1 d2 = true → g7_c6 x0 x1 d2 = true) (some (Lp.out ((bif g7_c6 x0 x1 d2 then ieq (g7_c2 x0 x1) (0 : Int) else false, ()) : Bool × Unit)))))))))))))))) (((0 : Int), x1.1 :: x1.2.1 :: x1.2.2.1 :: x1.2.2.2.1 :: ([] : List Int), ()) : Int × List Int × Unit))))
noncomputable def g7_sh : List LSh := LSh.mk (((3, TV.ref (0) (1 : Nat) (0 : Nat) (0 : Nat)) : Nat × TV) :: ((24, TV.v (Ty.int IntKind.i64)) : Nat × TV) :: ([] : List (Nat × TV))) (TB.arr (Ty.int IntKind.i64) false :: ([] : List TB)) :: ([] : List LSh)



end Go.Signs

set_option linter.unusedVariables false
set_option linter.unusedSimpArgs false
namespace Go.Signs
open Go Go.Ab Go.Proofs

theorem is135_iff {m : Int} : is135 m = true ↔ m = 1 ∨ m = 3 ∨ m = 5 := by
  simp only [is135, List.contains_iff_mem, List.mem_cons, List.not_mem_nil, or_false]
theorem is135_d {m : Int} : (bif bif !ieq m 1 then !ieq m 3 else false then !ieq m 5 else false) = !is135 m := by
  rw [Bool.eq_iff_iff]
  simp only [ieq_d]
  by_cases h1 : m = 1
  · subst h1; decide
  · by_cases h2 : m = 3
    · subst h2; decide
    · by_cases h3 : m = 5
      · subst h3; decide
      · have : is135 m = false := by rw [Bool.eq_false_iff]; intro hc; have := is135_iff.1 hc; omega
        simp [h1, h2, h3, this]

def seqQ (m s : Nat) (i : Nat) : Bool := s.testBit i == s.testBit (m - i)
theorem seq_all {m s : Nat} : ((List.range (m - 1)).all fun (i : Nat) => (s.testBit (i + 1) == s.testBit (m - (i + 1)))) = true ↔ ∀ i, 1 ≤ i → i < m → seqQ m s i = true := by
  rw [List.all_eq_true]
  constructor
  · intro h i h1 h2
    have := h (i - 1) (List.mem_range.2 (by omega))
    rw [show i - 1 + 1 = i by omega] at this
    exact this
  · intro h i hi
    have := List.mem_range.1 hi
    exact h (i + 1) (by omega) (by omega)
theorem bits_cmp {s i j : Nat} (hs : s < 65536) (hi : i < 16) (hj : j < 16) : ieq (iand .i64 (ishr .i64 (s : Int) (i : Int)) 1) (iand .i64 (ishr .i64 (s : Int) (j : Int)) 1) = (s.testBit i == s.testBit j) := by
  rw [(bit_nat hs hi).2, (bit_nat hs hj).2]
  unfold bit
  simp only [Int.toNat_natCast]
  have key : ∀ a b : Bool, ieq (if a = true then 1 else 0) (if b = true then 1 else 0) = (a == b) := by decide
  exact key _ _

theorem seq_loop {m s : Nat} (hm : m ≤ 5) (hs : s < 65536) {X : Type} {x y : X} {step : Int × Unit → Option (Lp (Int × Unit) X)}
    (h : ∀ i : Nat, 1 ≤ i → i < m → step (((i : Nat) : Int), ()) = some (cond (seqQ m s i) (.go ((((i + 1 : Nat) : Int), ()))) (.out x))) (h1 : 1 ≤ m) (hy : step (((m : Nat) : Int), ()) = some (.out y)) :
    whileO step ((1 : Int), ()) = some (cond ((List.range (m - 1)).all fun (i : Nat) => (s.testBit (i + 1) == s.testBit (m - (i + 1)))) y x) :=
  whileO_chk (st := fun i : Nat => ((i : Int), ())) (lo := 1) (hi := m) h1 seq_all h hy

theorem pow_m {m : Int} (h : is135 m = true) : (2 : Int) ^ m.toNat ≤ 32 := by
  rcases is135_iff.1 h with rfl | rfl | rfl <;> decide
theorem seq_bd {m s : Int} (hm : is135 m = true) (h : seqB m s = true) : 0 ≤ s ∧ s < 32 := by
  have := pow_m hm
  unfold seqB at h
  simp only [Bool.and_eq_true, decide_eq_true_eq] at h
  omega

theorem goal92 : con92.goal Try.prog (spOf []) g92_sh [] lm30 := by
  have e : (∀ (s : Int) (q : QtD), is135 q.1 = true → g92 s q = some (!seqB q.1 s, ())) = con92.goal Try.prog (spOf []) g92_sh [] lm30 := by kernel_rfl
  rw [← e]
  rintro s ⟨m, q, _⟩ hm
  simp only at hm ⊢
  have hp := pow_m hm
  have hm' := is135_iff.1 hm
  unfold g92
  simp only
  rw [ishl_pow (by omega) (by omega)]
  by_cases h1 : s < 0
  · have : seqB m s = false := by unfold seqB; rw [decide_eq_false (show ¬ 0 ≤ s by omega)]; rfl
    simp [ilt_iff.2 h1, this, gd_true]
  · by_cases h2 : s < 2 ^ m.toNat
    · have h0 : 0 ≤ m := by omega
      have hc : (bif ilt s 0 then true else ile (2 ^ m.toNat) s) = false := by rw [ilt_false.2 (by omega), ile_false.2 h2]; rfl
      simp only [hc, ilt_false.2 (Int.not_lt.1 h1), Bool.not_false, gd_true, and_self, imp_self, h0, forall_const, cond_false]
      obtain ⟨m, rfl⟩ : ∃ k : Nat, m = k := ⟨m.toNat, by omega⟩
      obtain ⟨s, rfl⟩ : ∃ k : Nat, s = k := ⟨s.toNat, by omega⟩
      have hm5 : m ≤ 5 := by omega
      have hs : s < 65536 := by omega
      have h2' : ile (2 ^ m) (s : Int) = false := ile_false.2 (by simpa using h2)
      simp only [Int.toNat_natCast, h2', cond_false]
      have hl := seq_loop (m := m) (s := s) (x := ((true, ()) : Bool × Unit)) (y := ((false, ()) : Bool × Unit)) (step := fun (d2 : Int × Unit) => bif ilt d2.1 (m : Int) then gd ((0 : Int) ≤ d2.1) (gd ((0 : Int) ≤ wr IntKind.i64 ((m : Int) - d2.1)) (bif !ieq (iand IntKind.i64 (ishr IntKind.i64 (s : Int) d2.1) (1 : Int)) (iand IntKind.i64 (ishr IntKind.i64 (s : Int) (wr IntKind.i64 ((m : Int) - d2.1))) (1 : Int)) then some (Lp.out ((true, ()) : Bool × Unit)) else some (Lp.go ((wr IntKind.i64 (d2.1 + (1 : Int)), ()) : Int × Unit)))) else some (Lp.out ((false, ()) : Bool × Unit))) hm5 hs (fun i h3 h4 => by
        simp only
        have e1 : wr .i64 ((m : Int) - (i : Int)) = ((m - i : Nat) : Int) := by rw [wr_id (by omega)]; omega
        rw [cond_t (ilt_iff.2 (by omega)), e1, gd_pos (by omega), gd_pos (by omega), bits_cmp hs (by omega) (by omega), cast1 (by omega)]
        unfold seqQ
        cases s.testBit i == s.testBit (m - i) <;> rfl) (by omega) (by
        simp only
        rw [cond_f (ilt_false.2 (by omega))])
      rw [hl]
      unfold seqB
      have h2'' : (s : Int) < 2 ^ m := by simpa using h2
      rw [decide_eq_true (show (0 : Int) ≤ s by omega)]
      simp only [Int.toNat_natCast, Bool.true_and, decide_eq_true h2'']
      cases (List.range (m - 1)).all fun (i : Nat) => (s.testBit (i + 1) == s.testBit (m - (i + 1))) <;> rfl
    · have : seqB m s = false := by unfold seqB; rw [decide_eq_false h2]; simp
      simp [ilt_false.2 (Int.not_lt.1 h1), ile_iff.2 (Int.not_lt.1 h2), this, gd_true, show 0 ≤ m by omega]
set_option maxRecDepth 100000 in
theorem ok92 : con92.Ok Try.prog := Con.of_goal mixed okN con92 goal92

theorem ixSeq_spec {m : Int} : ∀ {l : List Int} {i : Int}, 0 ≤ i → (0 ≤ ixSeq m l i ↔ l.all (seqB m) = false)
  | [], i, h => by simp [ixSeq]
  | x :: l, i, h => by
    rw [ixSeq]
    cases hx : seqB m x with
    | true => rw [if_pos rfl, ixSeq_spec (by omega), List.all_cons, hx, Bool.true_and]
    | false => simp [hx, h]
theorem ixSeq_go {m : Int} {l : List Int} {i : Nat} (h : i < l.length) (hq : seqB m (l.getD i 0) = true) : ixSeq m (l.drop i) i = ixSeq m (l.drop (i + 1)) (i + 1) := by
  rw [List.drop_eq_getElem_cons h, ixSeq]
  rw [gd_at h] at hq
  rw [if_pos hq]
theorem ixSeq_out {m : Int} {l : List Int} {i : Nat} (h : i < l.length) (hq : seqB m (l.getD i 0) = false) : ixSeq m (l.drop i) i = i := by
  rw [List.drop_eq_getElem_cons h, ixSeq]
  rw [gd_at h] at hq
  rw [if_neg (by rw [hq]; simp)]
abbrev St110 := QtD × Int × Unit
theorem goal110 : con110.goal Try.prog (spOf [con92]) g110_sh [] lm30 := by
  have e : (∀ (l : List Int) (q : QtD), small l → is135 q.1 = true → g110 l q = some (ixSeq q.1 l 0, ())) = con110.goal Try.prog (spOf [con92]) g110_sh [] lm30 := by kernel_rfl
  rw [← e]
  intro l q hs hq
  unfold small at hs
  unfold g110
  refine whileO_rec (fun (d : St110) => d.1 = q ∧ 0 ≤ d.2.1 ∧ d.2.1 ≤ l.length) (fun (d : St110) => l.length - d.2.1.toNat) (fun (d : St110) => (ixSeq q.1 (l.drop d.2.1.toNat) d.2.1, ())) ?_ ((q, 0, ()) : St110) ⟨rfl, by simp only; omega, by simp only; omega⟩
  rintro ⟨q', i, _⟩ ⟨rfl, h0, h1⟩
  simp only at h0 h1 hq ⊢
  obtain ⟨n, rfl⟩ : ∃ n : Nat, i = n := ⟨i.toNat, by omega⟩
  by_cases hlt : n < l.length
  · cases hx : seqB q'.1 (l.getD n 0) with
    | true =>
      right
      refine ⟨((q', ((n + 1 : Nat) : Int), ()) : St110), ?_, ⟨rfl, by simp only; omega, by simp only; omega⟩, by simp only; omega, ?_⟩
      · rw [cond_t (ilt_iff.2 (by omega)), gd_pos (by omega), gd_pos hq]
        simp only [Int.toNat_natCast, hx, cast1 (i := n) (by omega)]
        rfl
      · simp only [Int.toNat_natCast]
        rw [ixSeq_go hlt hx]; rfl
    | false =>
      left
      rw [cond_t (ilt_iff.2 (by omega)), gd_pos (by omega), gd_pos hq]
      simp only [Int.toNat_natCast, hx]
      rw [ixSeq_out hlt hx]
      rfl
  · left
    have hn : n = l.length := by omega
    rw [cond_f (ilt_false.2 (by omega))]
    simp only [Int.toNat_natCast, hn, List.drop_length, ixSeq]
set_option maxRecDepth 100000 in
theorem ok110 : con110.Ok Try.prog := Con.of_goal mixed (okC ok92 okN) con110 goal110

theorem goal91 : con91.goal Try.prog (spOf [con110]) g91_sh [] lm30 := by
  have e : (∀ (l : List Int) (q : QtD), small l → is135 q.1 = true → g91 l q = some (!l.all (seqB q.1), ())) = con91.goal Try.prog (spOf [con110]) g91_sh [] lm30 := by kernel_rfl
  rw [← e]
  intro l q hs h1
  unfold g91
  rw [gd_pos hs, gd_pos h1]
  have h := ixSeq_spec (m := q.1) (l := l) (i := 0) (by omega)
  cases ha : l.all (seqB q.1) with
  | true =>
    have : ixSeq q.1 l 0 < 0 := by
      rcases Int.lt_or_le (ixSeq q.1 l 0) 0 with h1 | h1
      · exact h1
      · have := h.1 h1; rw [ha] at this; cases this
    rw [ile_false.2 this]; rfl
  | false => rw [ile_iff.2 (h.2 ha)]; rfl
set_option maxRecDepth 100000 in
theorem ok91 : con91.Ok Try.prog := Con.of_goal mixed (okC ok110 okN) con91 goal91

theorem goal73 : con73.goal Try.prog (spOf [con91]) g73_sh [] lm30 := by
  have e : (∀ (q : QtD), g73 q = some (valQ q, ())) = con73.goal Try.prog (spOf [con91]) g73_sh [] lm30 := by kernel_rfl
  rw [← e]
  rintro ⟨m, ⟨a, b, c, d, _⟩, _⟩
  have hs : small [a, b, c, d] := small16 (by simp)
  unfold g73 valQ l4
  simp only [is135_d]
  cases h : is135 m with
  | false => simp [gd_true]
  | true => simp [gd_true, hs]
set_option maxRecDepth 100000 in
theorem ok73 : con73.Ok Try.prog := Con.of_goal mixed (okC ok91 okN) con73 goal73

/-! ### Signs -/
theorem valQ_iff {m a b c d : Int} : valQ (m, (a, b, c, d, ()), ()) = true ↔ is135 m = true ∧ seqB m a = true ∧ seqB m b = true ∧ seqB m c = true ∧ seqB m d = true := by
  unfold valQ l4
  simp [List.all_cons]
theorem sK_bd {m a b c d k : Int} (h : valQ (m, (a, b, c, d, ()), ()) = true) (h0 : 0 ≤ k) (h4 : k < 4) : 0 ≤ sK (a, b, c, d, ()) k ∧ sK (a, b, c, d, ()) k < 32 := by
  obtain ⟨hm, h1, h2, h3, h5⟩ := valQ_iff.1 h
  have b1 := seq_bd hm h1
  have b2 := seq_bd hm h2
  have b3 := seq_bd hm h3
  have b4 := seq_bd hm h5
  have : k = 0 ∨ k = 1 ∨ k = 2 ∨ k = 3 := by omega
  rcases this with rfl | rfl | rfl | rfl
  · exact b1
  · exact b2
  · exact b3
  · exact b4
theorem tmod_135 {m i : Int} (hm : m = 1 ∨ m = 3 ∨ m = 5) (h1 : -100 ≤ i) (h2 : i ≤ 100) : Int.tmod (wr .i64 (Int.tmod i m + m)) m = i % m ∧ 0 ≤ i % m ∧ i % m < m := by
  have a1 := Int.lt_tmod_of_pos i (show 0 < m by omega)
  have a2 := Int.tmod_lt_of_pos i (show 0 < m by omega)
  rw [wr_id (by omega), Int.tmod_eq_emod_of_nonneg (by omega)]
  have e1 : i.tmod m = i % m ∨ i.tmod m = i % m - m := by
    rw [Int.tmod_eq_emod]
    split
    · left; omega
    · right
      have : (m.natAbs : Int) = m := by omega
      omega
  rcases hm with rfl | rfl | rfl <;> omega
theorem sgT_eq {s i : Int} (hs : 0 ≤ s ∧ s < 65536) (hi : 0 ≤ i ∧ i < 16) : wr .i64 (1 - wr .i64 (2 * iand .i64 (ishr .i64 s i) 1)) = sgT s i := by
  obtain ⟨s, rfl⟩ : ∃ n : Nat, s = n := ⟨s.toNat, by omega⟩
  obtain ⟨i, rfl⟩ : ∃ n : Nat, i = n := ⟨i.toNat, by omega⟩
  rw [(bit_nat (by omega) (by omega)).2]
  unfold sgT bit
  simp only [Int.toNat_natCast]
  have key : ∀ a : Bool, wr .i64 (1 - wr .i64 (2 * if a = true then 1 else 0)) = if a = true then -1 else 1 := by decide
  exact key _
theorem sgT_bd {s i : Int} : -1 ≤ sgT s i ∧ sgT s i ≤ 1 := by unfold sgT; split <;> decide

theorem goal77 : con77.goal Try.prog (spOf []) g77_sh [] lm30 := by
  have e : (∀ (q : QtD) (k i : Int), valQ q = true → 0 ≤ k → k < 4 → -5 ≤ i → i ≤ 10 → g77 q k i = some (sgnF q k i, ())) = con77.goal Try.prog (spOf []) g77_sh [] lm30 := by kernel_rfl
  rw [← e]
  rintro ⟨m, ⟨a, b, c, d, _⟩, _⟩ k i hq h0 h4 hi hi'
  have hm := (valQ_iff.1 hq).1
  have hm' := is135_iff.1 hm
  obtain ⟨t1, t2, t3⟩ := tmod_135 hm' (i := i) (by omega) (by omega)
  have hsb := sK_bd hq h0 h4
  have hk : List.getD (m :: a :: b :: c :: d :: ([] : List Int)) (1 + k.toNat * 1) 0 = sK (a, b, c, d, ()) k := by
    have : k = 0 ∨ k = 1 ∨ k = 2 ∨ k = 3 := by omega
    rcases this with rfl | rfl | rfl | rfl <;> rfl
  unfold g77 sgnF
  simp only [t1, hk]
  have hm0 : m ≠ 0 := by omega
  rw [gd_pos ⟨h0, h4⟩, gd_pos (by omega), gd_pos (by omega), gd_pos hm0, gd_pos (by omega), gd_pos (by omega), gd_pos hm0, gd_pos t2, sgT_eq (by omega) (by omega)]
set_option maxRecDepth 100000 in
theorem ok77 : con77.Ok Try.prog := Con.of_goal mixed okN con77 goal77

theorem sgn_mul_bd {q : QtD} {k i k' i' : Int} : -1 ≤ sgnF q k i * sgnF q k' i' ∧ sgnF q k i * sgnF q k' i' ≤ 1 := by
  unfold sgnF sgT
  split <;> split <;> decide

abbrev S1g := Int × List Int × Unit
abbrev S2g := Int × Int × List Int × Unit
section
variable {m a b c d : Int}
def QL (m a b c d : Int) : List Int := [m, a, b, c, d]
theorem in74a (h : valQ (m, (a, b, c, d, ()), ()) = true) {sh k : Nat} (hsh : (sh : Int) < m) (hk : k < 4) {A : Int} (hA : -100 ≤ A ∧ A ≤ 100) : whileO (g74_l0 (((sh : Int), QL m a b c d, ()) : S1g) ((A, (k : Int), QL m a b c d, ()) : S2g)) ((A, (0 : Int), QL m a b c d, ()) : S2g) =
    some (.go ((A + sumN (fun i => sgnF (m, (a, b, c, d, ()), ()) k i * sgnF (m, (a, b, c, d, ()), ()) k ((i : Int) + (sh : Int))) m.toNat, ((k + 1 : Nat) : Int), QL m a b c d, ()) : S2g)) := by
  have hm := is135_iff.1 (valQ_iff.1 h).1
  have hbd : ∀ j : Nat, -(j * 1 : Int) ≤ sumN (fun i => sgnF (m, (a, b, c, d, ()), ()) k i * sgnF (m, (a, b, c, d, ()), ()) k ((i : Int) + (sh : Int))) j ∧ sumN (fun i => sgnF (m, (a, b, c, d, ()), ()) k i * sgnF (m, (a, b, c, d, ()), ()) k ((i : Int) + (sh : Int))) j ≤ (j : Int) * 1 := fun j => sumN_bd fun i _ => sgn_mul_bd
  have := whileO_nat (step := g74_l0 (((sh : Int), QL m a b c d, ()) : S1g) ((A, (k : Int), QL m a b c d, ()) : S2g)) (st := fun i => ((A + sumN (fun i => sgnF (m, (a, b, c, d, ()), ()) k i * sgnF (m, (a, b, c, d, ()), ()) k ((i : Int) + (sh : Int))) i, ((i : Nat) : Int), QL m a b c d, ()) : S2g)) (lo := 0) (hi := m.toNat) (x := Lp.go ((A + sumN (fun i => sgnF (m, (a, b, c, d, ()), ()) k i * sgnF (m, (a, b, c, d, ()), ()) k ((i : Int) + (sh : Int))) m.toNat, ((k + 1 : Nat) : Int), QL m a b c d, ()) : S2g)) (by omega) (fun i _ hi => ?_) ?_
  · have hz : A + sumN (fun i => sgnF (m, (a, b, c, d, ()), ()) k i * sgnF (m, (a, b, c, d, ()), ()) k ((i : Int) + (sh : Int))) 0 = A := by rw [sumN]; omega
    simp only [hz] at this
    exact this
  · have b1 := hbd i
    have b2 := sgn_mul_bd (q := (m, (a, b, c, d, ()), ())) (k := k) (i := i) (k' := k) (i' := (i : Int) + (sh : Int))
    unfold g74_l0 QL
    simp only [List.getD_cons_zero, List.getD_cons_succ]
    have e1 : wr .i64 ((i : Int) + (sh : Int)) = (i : Int) + (sh : Int) := wr_id (by omega)
    rw [cond_t (ilt_iff.2 (by omega)), e1]
    simp only [h, gd_true, List.length_cons, List.length_nil]
    rw [gd_pos (by omega), gd_pos (by omega), gd_pos (by omega), gd_pos (by omega), gd_pos (by omega), gd_pos (by omega), gd_pos (by omega), gd_pos (by omega), gd_pos (by omega), gd_pos (by omega)]
    rw [wr_id (n := sgnF _ _ _ * sgnF _ _ _) (by omega), wr_id (by omega), cast1 (by omega), sumN, Int.add_assoc]
  · unfold g74_l0 QL
    simp only [List.getD_cons_zero]
    rw [cond_f (ilt_false.2 (by omega)), cast1 (by omega)]

theorem gsum_bd {q : QtD} {sh : Int} (hm : q.1 ≤ 5) : ∀ k : Nat, k ≤ 4 → -(k * 5 : Int) ≤ sumN (fun k => sumN (fun i => sgnF q k i * sgnF q k (i + sh)) q.1.toNat) k ∧ sumN (fun k => sumN (fun i => sgnF q k i * sgnF q k (i + sh)) q.1.toNat) k ≤ (k : Int) * 5 := fun k _ => sumN_bd fun k _ => by
  have := sumN_bd (f := fun i : Nat => sgnF q k i * sgnF q k (i + sh)) (c := 1) (n := q.1.toNat) fun i _ => sgn_mul_bd
  omega

theorem in74b (h : valQ (m, (a, b, c, d, ()), ()) = true) {sh : Nat} (hsh : (sh : Int) < m) : whileO (g74_l1 (((sh : Int), QL m a b c d, ()) : S1g)) (((0 : Int), (0 : Int), QL m a b c d, ()) : S2g) =
    some (cond (decide (gSum (m, (a, b, c, d, ()), ()) sh = 0)) (.go ((((sh + 1 : Nat) : Int), QL m a b c d, ()) : S1g)) (.out ((false, ()) : Bool × Unit))) := by
  have hm := is135_iff.1 (valQ_iff.1 h).1
  refine whileO_nat (st := fun k => ((sumN (fun k => sumN (fun i => sgnF (m, (a, b, c, d, ()), ()) k i * sgnF (m, (a, b, c, d, ()), ()) k ((i : Int) + (sh : Int))) m.toNat) k, ((k : Nat) : Int), QL m a b c d, ()) : S2g)) (lo := 0) (hi := 4) (by omega) (fun k _ hk => ?_) ?_
  · unfold g74_l1
    dsimp only
    have hb := gsum_bd (q := (m, (a, b, c, d, ()), ())) (sh := sh) (by simp only; omega) k (by omega)
    rw [cond_t (ilt_iff.2 (by omega)), gd_pos (by simp [QL])]
    exact in74a h hsh hk (by simp only at hb; omega)
  · unfold g74_l1
    dsimp only
    rw [cond_f (ilt_false.2 (by omega)), cast1 (by omega)]
    have : sumN (fun k => sumN (fun i => sgnF (m, (a, b, c, d, ()), ()) k i * sgnF (m, (a, b, c, d, ()), ()) k ((i : Int) + (sh : Int))) m.toNat) 4 = gSum (m, (a, b, c, d, ()), ()) sh := rfl
    rw [this, ieq_d]
    cases decide (gSum (m, (a, b, c, d, ()), ()) sh = 0) <;> rfl
end

theorem good_all {q : QtD} : goodF q = true ↔ ∀ i, 1 ≤ i → i < q.1.toNat → decide (gSum q (i : Int) = 0) = true := by
  unfold goodF
  rw [List.all_eq_true]
  constructor
  · intro h i h1 h2
    have := h (i - 1) (List.mem_range.2 (by omega))
    rwa [show i - 1 + 1 = i by omega] at this
  · intro h i hi
    have := List.mem_range.1 hi
    exact h (i + 1) (by omega) (by omega)
theorem goal74 : con74.goal Try.prog (spOf [con77]) g74_sh [] lm30 := by
  have e : (∀ (q : QtD), valQ q = true → g74 q = some (goodF q, ())) = con74.goal Try.prog (spOf [con77]) g74_sh [] lm30 := by kernel_rfl
  rw [← e]
  rintro ⟨m, ⟨a, b, c, d, _⟩, _⟩ h
  have hm := is135_iff.1 (valQ_iff.1 h).1
  unfold g74
  refine (whileO_chk (st := fun i : Nat => (((i : Int), QL m a b c d, ()) : S1g)) (lo := 1) (hi := m.toNat) (b := goodF (m, (a, b, c, d, ()), ())) (Q := fun i => decide (gSum (m, (a, b, c, d, ()), ()) (i : Int) = 0)) (x := ((false, ()) : Bool × Unit)) (y := ((true, ()) : Bool × Unit)) (by omega) good_all (fun i h1 hi => ?_) ?_).trans (by rw [cond_eta])
  · have hg : (QL m a b c d).getD 0 0 = m := rfl
    simp only [hg]
    rw [gd_pos (by simp [QL]), cond_t (ilt_iff.2 (by omega)), in74b h (by omega)]
  · have hg : (QL m a b c d).getD 0 0 = m := rfl
    simp only [hg]
    rw [gd_pos (by simp [QL]), cond_f (ilt_false.2 (by omega))]
set_option maxRecDepth 100000 in
theorem ok74 : con74.Ok Try.prog := Con.of_goal mixed (okC ok77 okN) con74 goal74

theorem goal35 : con35.goal Try.prog (spOf [con73, con74]) g35_sh [] lm30 := by
  have e : (∀ (m : Int) (s : A4D), g35 m s = some (goodX (m, s, ()))) = con35.goal Try.prog (spOf [con73, con74]) g35_sh [] lm30 := by kernel_rfl
  rw [← e]
  rintro m ⟨a, b, c, d, _⟩
  unfold g35 goodX
  cases h : valQ (m, (a, b, c, d, ()), ()) <;> simp [gd_true, h]
set_option maxRecDepth 100000 in
theorem ok35 : con35.Ok Try.prog := Con.of_goal mixed (okC ok73 (okC ok74 okN)) con35 goal35

theorem goal75 : con75.goal Try.prog (spOf []) g75_sh [] lm30 := by
  have e : (g75 = some (whereC, ())) = con75.goal Try.prog (spOf []) g75_sh [] lm30 := by kernel_rfl
  rw [← e]
  rfl
set_option maxRecDepth 100000 in
theorem ok75 : con75.Ok Try.prog := Con.of_goal mixed okN con75 goal75

end Go.Signs

set_option linter.unusedVariables false
set_option linter.unusedSimpArgs false
namespace Go.Signs
open Go Go.Ab Go.Proofs

theorem where_tab : ∀ a : Nat, a < 4 → ∀ b : Nat, b < 4 → (@id BkD (arrGet 4 Bk (@id R4D (arrGet 4 R4 whereC a)) b)) = (blkX a b, isNeg a b, ()) := by decide +kernel
theorem blk_bd : ∀ a : Nat, a < 4 → ∀ b : Nat, b < 4 → 0 ≤ blkX a b ∧ blkX a b < 4 := by decide +kernel

theorem goal76 : con76.goal Try.prog (spOf [con77]) g76_sh [] lm30 := by
  have e : (∀ (i j : Int) (w : W4D) (m : Int) (q : QtD), w = whereC → m = q.1 → valQ q = true → 0 ≤ i → i < 4 * m → 0 ≤ j → j < 4 * m → g76 i j w m q = some (arrB q i j, ())) = con76.goal Try.prog (spOf [con77]) g76_sh [] lm30 := by kernel_rfl
  rw [← e]
  rintro i j w m q rfl rfl hq hi hi' hj hj'
  obtain ⟨m, ⟨a, b, c, d, _⟩, _⟩ := q
  simp only at hi' hj' ⊢
  have hm := is135_iff.1 (valQ_iff.1 hq).1
  obtain ⟨i, rfl⟩ : ∃ k : Nat, i = k := ⟨i.toNat, by omega⟩
  obtain ⟨j, rfl⟩ : ∃ k : Nat, j = k := ⟨j.toNat, by omega⟩
  obtain ⟨m, rfl⟩ : ∃ k : Nat, m = k := ⟨m.toNat, by omega⟩
  have hm0 : 0 < m := by omega
  have d1 : i / m < 4 := Nat.div_lt_of_lt_mul (by omega)
  have d2 : j / m < 4 := Nat.div_lt_of_lt_mul (by omega)
  have m1 := Nat.mod_lt i hm0
  have m2 := Nat.mod_lt j hm0
  unfold g76 arrB
  simp only [tdiv_nat, tmod_nat]
  rw [wri (by omega), wri (by omega)]
  simp only [Int.toNat_natCast]
  have ht := where_tab (i / m) d1 (j / m) d2
  have hb := blk_bd (i / m) d1 (j / m) d2
  have hw : wr .i64 (((j % m : Nat) : Int) - ((i % m : Nat) : Int)) = ((j % m : Nat) : Int) - ((i % m : Nat) : Int) := wr_id (by omega)
  rw [gd_pos (by omega), gd_pos (by omega), gd_pos ⟨Int.natCast_nonneg _, by omega⟩, gd_pos ⟨Int.natCast_nonneg _, by omega⟩, gd_pos (by omega), gd_pos (by omega), gd_pos hq, hw]
  erw [ht]
  dsimp only
  rw [gd_pos hb.1, gd_pos hb.2, gd_pos (by omega), gd_pos (by omega)]
  have e1 : (i : Int) / (m : Int) = ((i / m : Nat) : Int) := rfl
  have e2 : (j : Int) / (m : Int) = ((j / m : Nat) : Int) := rfl
  have e3 : (i : Int) % (m : Int) = ((i % m : Nat) : Int) := rfl
  have e4 : (j : Int) % (m : Int) = ((j % m : Nat) : Int) := rfl
  rw [e1, e2, e3, e4, ilt_d]
  cases decide (sgnF (((m : Nat) : Int), (a, b, c, d, ()), ()) (blkX ((i / m : Nat) : Int) ((j / m : Nat) : Int)) (((j % m : Nat) : Int) - ((i % m : Nat) : Int)) < 0) <;> cases isNeg ((i / m : Nat) : Int) ((j / m : Nat) : Int) <;> rfl
set_option maxRecDepth 100000 in
theorem ok76 : con76.Ok Try.prog := Con.of_goal mixed (okC ok77 okN) con76 goal76

abbrev StA := W4D × Int × QtD × Int × List Int × Unit
theorem in59a {q : QtD} (hq : valQ q = true) {n i : Nat} (hn : (n : Int) = 4 * q.1) (hn16 : n ≤ 16) (hi : i < n) {f : Int → Int → Bool} (hf : f = arrB q) :
    whileO (g59a_l0 (n : Int) ((whereC, q.1, q, (i : Int), partL n f i 0, ()) : StA)) ((whereC, q.1, q, (0 : Int), partL n f i 0, ()) : StA) = some (.go ((whereC, q.1, q, ((i + 1 : Nat) : Int), partL n f (i + 1) 0, ()) : StA)) := by
  refine whileO_nat (st := fun j => ((whereC, q.1, q, ((j : Nat) : Int), partL n f i j, ()) : StA)) (lo := 0) (hi := n) (by omega) (fun j _ hj => ?_) ?_
  · unfold g59a_l0
    dsimp only
    have hl : (partL n f i j).length = n := part_len
    rw [cond_t (ilt_iff.2 (by omega)), gd_pos rfl, gd_pos rfl, gd_pos hq, gd_pos (by omega), gd_pos (by omega), gd_pos (by omega), gd_pos (by omega)]
    cases h : f i j with
    | true =>
      have h' := h
      rw [hf] at h'
      rw [h', cond_t rfl]
      simp only [hl, Int.toNat_natCast, List.length_set, gd_true]
      rw [gd_pos (by omega), gd_pos (by omega), gd_pos (by omega), gd_pos (by omega), gd_pos (by omega)]
      have := part_or hn16 hi hj h
      rw [Int.toNat_natCast] at this
      rw [this, cast1 (by omega)]
    | false =>
      have h' := h
      rw [hf] at h'
      rw [h', cond_f rfl]
      simp only [gd_true]
      rw [part_no hi h, cast1 (by omega)]
  · unfold g59a_l0
    dsimp only
    rw [cond_f (ilt_false.2 (by omega))]
    simp only [gd_true]
    rw [part_next, cast1 (by omega)]

theorem goal59a : con59a.goal Try.prog (spOf [con76]) g59a_sh [] lm30 := by
  have e : (∀ (n : Int) (w : W4D) (m : Int) (q : QtD), w = whereC → m = q.1 → valQ q = true → n = 4 * m → n ≤ 16 → g59a n w m q = some (madeF n.toNat (arrB q), ())) = con59a.goal Try.prog (spOf [con76]) g59a_sh [] lm30 := by kernel_rfl
  rw [← e]
  rintro n w m q rfl rfl hq hn hn16
  have hm : q.1 = 1 ∨ q.1 = 3 ∨ q.1 = 5 := by
    obtain ⟨m', ⟨a, b, c, d, _⟩, _⟩ := q
    exact is135_iff.1 (valQ_iff.1 hq).1
  obtain ⟨n, rfl⟩ : ∃ k : Nat, n = k := ⟨n.toNat, by omega⟩
  unfold g59a
  rw [Int.toNat_natCast, gd_pos (by omega), gd_pos (by simp), ← part_0 (f := arrB q)]
  refine whileO_nat (st := fun i => ((whereC, q.1, q, ((i : Nat) : Int), partL n (arrB q) i 0, ()) : StA)) (lo := 0) (hi := n) (by omega) (fun i _ hi => ?_) ?_
  · simp only
    rw [cond_t (ilt_iff.2 (by omega)), gd_true, in59a hq hn (by omega) hi rfl]
  · simp only
    rw [cond_f (ilt_false.2 (by omega)), gd_pos (by omega), take_all, part_end]
set_option maxRecDepth 100000 in
theorem ok59a : con59a.Ok Try.prog := Con.of_goal mixed (okC ok76 okN) con59a goal59a

theorem goal36 : con36.goal Try.prog (spOf [con73, con75, con59a]) g36_sh [] lm30 := by
  have e : (∀ (m : Int) (s : A4D), g36 m s = some (arrX (m, s, ()))) = con36.goal Try.prog (spOf [con73, con75, con59a]) g36_sh [] lm30 := by kernel_rfl
  rw [← e]
  rintro m ⟨a, b, c, d, _⟩
  unfold g36 arrX
  cases h : valQ (m, (a, b, c, d, ()), ()) with
  | false => simp [gd_true, h]
  | true =>
    have hm := is135_iff.1 (valQ_iff.1 h).1
    have hw : wr .i64 (4 * m) = 4 * m := wr_id (by omega)
    simp only [Nat.le_refl, gd_true, h, Bool.not_true, cond_false, if_true, hw]
    by_cases h4 : m ≤ 4
    · rw [cond_f (ilt_false.2 (by omega)), if_pos h4, gd_pos (by omega)]
      rfl
    · rw [cond_t (ilt_iff.2 (by omega)), if_neg h4]
set_option maxRecDepth 100000 in
theorem ok36 : con36.Ok Try.prog := Con.of_goal mixed (okC ok73 (okC ok75 (okC ok59a okN))) con36 goal36

/-! ### The reference -/
theorem goal37 : con37.goal Try.prog (spOf []) g37_sh [] lm30 := by
  have e : (∀ (m s : Int), g37 m s = some (is135 m && seqB m s, ())) = con37.goal Try.prog (spOf []) g37_sh [] lm30 := by kernel_rfl
  rw [← e]
  intro m s
  unfold g37
  simp only [is135_d]
  cases hm : is135 m with
  | false => simp [gd_true]
  | true =>
    have hp := pow_m hm
    have hm' := is135_iff.1 hm
    simp only [Bool.not_true, Bool.true_and]
    rw [ishl_pow (by omega) (by omega)]
    by_cases h1 : s < 0
    · have : seqB m s = false := by unfold seqB; rw [decide_eq_false (show ¬ 0 ≤ s by omega)]; rfl
      simp [ilt_iff.2 h1, this, gd_true]
    · by_cases h2 : s < 2 ^ m.toNat
      · have h0 : 0 ≤ m := by omega
        have hc1 : ilt s 0 = false := ilt_false.2 (by omega)
        have hc2 : ile (2 ^ m.toNat) s = false := ile_false.2 h2
        simp only [hc1, hc2, cond_false, Bool.not_false, imp_self, gd_true, and_self, h0, forall_const, false_implies, Bool.false_eq_true, Bool.true_eq_false]
        obtain ⟨m, rfl⟩ : ∃ k : Nat, m = k := ⟨m.toNat, by omega⟩
        obtain ⟨s, rfl⟩ : ∃ k : Nat, s = k := ⟨s.toNat, by omega⟩
        have hm5 : m ≤ 5 := by omega
        have hs : s < 65536 := by omega
        have hl := seq_loop (m := m) (s := s) (x := ((false, ()) : Bool × Unit)) (y := ((true, ()) : Bool × Unit)) (step := fun (d2 : Int × Unit) => bif ilt d2.1 (m : Int) then gd ((0 : Int) ≤ d2.1) (gd ((0 : Int) ≤ wr IntKind.i64 ((m : Int) - d2.1)) (bif !ieq (iand IntKind.i64 (ishr IntKind.i64 (s : Int) d2.1) (1 : Int)) (iand IntKind.i64 (ishr IntKind.i64 (s : Int) (wr IntKind.i64 ((m : Int) - d2.1))) (1 : Int)) then some (Lp.out ((false, ()) : Bool × Unit)) else some (Lp.go ((wr IntKind.i64 (d2.1 + (1 : Int)), ()) : Int × Unit)))) else some (Lp.out ((true, ()) : Bool × Unit))) hm5 hs (fun i h3 h4 => by
          simp only
          have e1 : wr .i64 ((m : Int) - (i : Int)) = ((m - i : Nat) : Int) := by rw [wr_id (by omega)]; omega
          rw [cond_t (ilt_iff.2 (by omega)), e1, gd_pos (by omega), gd_pos (by omega), bits_cmp hs (by omega) (by omega), cast1 (by omega)]
          unfold seqQ
          cases s.testBit i == s.testBit (m - i) <;> rfl) (by omega) (by
          simp only
          rw [cond_f (ilt_false.2 (by omega))])
        rw [hl]
        unfold seqB
        have h2'' : (s : Int) < 2 ^ m := by simpa using h2
        rw [decide_eq_true (show (0 : Int) ≤ s by omega)]
        simp only [Int.toNat_natCast, Bool.true_and, decide_eq_true h2'']
        cases (List.range (m - 1)).all fun (i : Nat) => (s.testBit (i + 1) == s.testBit (m - (i + 1))) <;> rfl
      · have : seqB m s = false := by unfold seqB; rw [decide_eq_false h2]; simp
        simp [ilt_false.2 (Int.not_lt.1 h1), ile_iff.2 (Int.not_lt.1 h2), this, gd_true, show 0 ≤ m by omega]
set_option maxRecDepth 100000 in
theorem ok37 : con37.Ok Try.prog := Con.of_goal mixed okN con37 goal37

theorem goal78 : con78.goal Try.prog (spOf []) g78_sh [] lm30 := by
  have e : (∀ (m s i j : Int), is135 m = true → 0 ≤ s → s < 65536 → 0 ≤ i → i < m → 0 ≤ j → j < m → g78 m s i j = some (sgT s ((j - i) % m), ())) = con78.goal Try.prog (spOf []) g78_sh [] lm30 := by kernel_rfl
  rw [← e]
  intro m s i j hm h0 h1 h2 h3 h4 h5
  have hm' := is135_iff.1 hm
  have e1 : Int.tmod (wr .i64 (wr .i64 (j - i) + m)) m = (j - i) % m := by
    rw [wr_id (n := j - i) (by omega), wr_id (by omega), Int.tmod_eq_emod_of_nonneg (by omega), Int.add_emod_right]
  have e2 : 0 ≤ (j - i) % m := Int.emod_nonneg _ (by omega)
  have e3 : (j - i) % m < m := Int.emod_lt_of_pos _ (by omega)
  unfold g78
  rw [e1, gd_pos (by omega), gd_pos e2, sgT_eq (by omega) (by omega)]
set_option maxRecDepth 100000 in
theorem ok78 : con78.Ok Try.prog := Con.of_goal mixed okN con78 goal78

end Go.Signs

set_option linter.unusedVariables false
set_option linter.unusedSimpArgs false
namespace Go.Signs
open Go Go.Ab Go.Proofs

/-! ### Products of circulants -/
def cirP (m s : Int) (i j u : Nat) : Int := sgT s (((u : Int) - i) % m) * sgT s (((j : Int) - u) % m)
def corP (m s d : Int) (u : Nat) : Int := sgT s ((u : Int) % m) * sgT s (((u : Int) + d) % m)
theorem cir_all : ∀ m ∈ ([1, 3, 5] : List Nat), ∀ s ∈ List.range 32, seqB m s = true → ∀ i ∈ List.range m, ∀ j ∈ List.range m, sumN (cirP m s i j) m = sumN (corP m s (((j : Int) - i) % m)) m := by decide +kernel
theorem cor_zero {m s : Int} {n : Nat} : sumN (corP m s 0) n = n := by
  have : ∀ u : Nat, u < n → corP m s 0 u = 1 := fun u _ => by
    unfold corP
    rw [Int.add_zero]
    unfold sgT
    split <;> rfl
  rw [sumN_congr this, sumN_const, Int.mul_one]
section
variable {m a b c d : Int}
theorem sK_seq {k : Nat} (h : valQ (m, (a, b, c, d, ()), ()) = true) (hk : k < 4) : seqB m (sK (a, b, c, d, ()) k) = true := by
  obtain ⟨hm, h1, h2, h3, h4⟩ := valQ_iff.1 h
  have : k = 0 ∨ k = 1 ∨ k = 2 ∨ k = 3 := by omega
  rcases this with rfl | rfl | rfl | rfl
  · exact h1
  · exact h2
  · exact h3
  · exact h4
theorem cir_cor {k i j : Nat} (h : valQ (m, (a, b, c, d, ()), ()) = true) (hk : k < 4) (hi : (i : Int) < m) (hj : (j : Int) < m) : sumN (cirP m (sK (a, b, c, d, ()) k) i j) m.toNat = sumN (corP m (sK (a, b, c, d, ()) k) (((j : Int) - i) % m)) m.toNat := by
  have hm := is135_iff.1 (valQ_iff.1 h).1
  have hs := sK_seq h hk
  have hb := sK_bd (k := k) h (by omega) (by omega)
  obtain ⟨s, hs'⟩ : ∃ s : Nat, sK (a, b, c, d, ()) k = s := ⟨_, (Int.toNat_of_nonneg hb.1).symm⟩
  rw [hs'] at hs hb ⊢
  obtain ⟨n, rfl⟩ : ∃ n : Nat, m = n := ⟨m.toNat, by omega⟩
  exact cir_all n (by simp; omega) s (List.mem_range.2 (by omega)) hs i (List.mem_range.2 (by omega)) j (List.mem_range.2 (by omega))
/-- The sum of the products at one place. -/
def cirS (m a b c d : Int) (i j : Nat) : Int := sumN (fun k => sumN (cirP m (sK (a, b, c, d, ()) (k : Int)) i j) m.toNat) 4
theorem cirS_eq {i j : Nat} (h : valQ (m, (a, b, c, d, ()), ()) = true) (hi : (i : Int) < m) (hj : (j : Int) < m) : cirS m a b c d i j = gSum (m, (a, b, c, d, ()), ()) (((j : Int) - i) % m) := sumN_congr fun k hk => cir_cor h hk hi hj
theorem gSum_zero (h0 : 0 ≤ m) : gSum (m, (a, b, c, d, ()), ()) 0 = 4 * m := by
  have : gSum (m, (a, b, c, d, ()), ()) 0 = sumN (fun k => sumN (corP m (sK (a, b, c, d, ()) (k : Int)) 0) m.toNat) 4 := rfl
  rw [this, sumN_congr (g := fun _ => m) fun k _ => by rw [cor_zero]; omega, sumN_const]
  rfl
def ijQ (m a b c d : Int) (i j : Nat) : Bool := decide (i = j) || decide (gSum (m, (a, b, c, d, ()), ()) (((j : Int) - i) % m) = 0)
theorem good_ij (h : valQ (m, (a, b, c, d, ()), ()) = true) : goodF (m, (a, b, c, d, ()), ()) = (List.range m.toNat).all fun i => (List.range m.toNat).all fun j => ijQ m a b c d i j := by
  have hm := is135_iff.1 (valQ_iff.1 h).1
  rw [Bool.eq_iff_iff, good_all]
  simp only [List.all_eq_true, List.mem_range, ijQ, Bool.or_eq_true, decide_eq_true_eq]
  constructor
  · intro hg i hi j hj
    by_cases e : i = j
    · exact .inl e
    · right
      have e1 : 0 ≤ ((j : Int) - i) % m := Int.emod_nonneg _ (by omega)
      have e2 : ((j : Int) - i) % m < m := Int.emod_lt_of_pos _ (by omega)
      have e3 : ((j : Int) - i) % m ≠ 0 := by rcases hm with rfl | rfl | rfl <;> omega
      have := hg (((j : Int) - i) % m).toNat (by omega) (by omega)
      rwa [Int.toNat_of_nonneg e1] at this
  · intro hg i h1 hi
    have := hg 0 (by omega) i hi
    rcases this with h2 | h2
    · omega
    · have e1 : ((i : Int) - ((0 : Nat) : Int)) % m = i := by
        rw [show (i : Int) - ((0 : Nat) : Int) = i by omega]
        exact Int.emod_eq_of_lt (by omega) (by omega)
      rwa [e1] at h2

/-! ### The loops -/
theorem arr_sK {k : Nat} (hk : k < 4) : (@id Int (arrGet 4 (.int .i64) ((a, b, c, d, ()) : A4D) k)) = sK (a, b, c, d, ()) k := by
  have : k = 0 ∨ k = 1 ∨ k = 2 ∨ k = 3 := by omega
  rcases this with rfl | rfl | rfl | rfl <;> rfl
theorem cir_bd {s : Int} {i j u : Nat} : -1 ≤ cirP m s i j u ∧ cirP m s i j u ≤ 1 := by
  unfold cirP sgT
  split <;> split <;> decide
theorem cirN_bd {s : Int} {i j : Nat} (n : Nat) : -(n * 1 : Int) ≤ sumN (cirP m s i j) n ∧ sumN (cirP m s i j) n ≤ (n : Int) * 1 := sumN_bd fun u _ => cir_bd

theorem in38a (h : valQ (m, (a, b, c, d, ()), ()) = true) {i j k : Nat} (hi : (i : Int) < m) (hj : (j : Int) < m) (hk : k < 4) {A : Int} (hA : -100 ≤ A ∧ A ≤ 100) :
    whileO (g38_l0 m (((i : Int), [a, b, c, d], ()) : S1g) (((j : Int), [a, b, c, d], ()) : S1g) ((A, (k : Int), [a, b, c, d], ()) : S2g)) ((A, (0 : Int), [a, b, c, d], ()) : S2g) =
    some (.go ((A + sumN (cirP m (sK (a, b, c, d, ()) k) i j) m.toNat, ((k + 1 : Nat) : Int), [a, b, c, d], ()) : S2g)) := by
  have hm1 := (valQ_iff.1 h).1
  have hm := is135_iff.1 hm1
  have hb := sK_bd (k := k) h (by omega) (by omega)
  have := whileO_nat (step := g38_l0 m (((i : Int), [a, b, c, d], ()) : S1g) (((j : Int), [a, b, c, d], ()) : S1g) ((A, (k : Int), [a, b, c, d], ()) : S2g)) (st := fun u => ((A + sumN (cirP m (sK (a, b, c, d, ()) k) i j) u, ((u : Nat) : Int), [a, b, c, d], ()) : S2g)) (lo := 0) (hi := m.toNat) (x := Lp.go ((A + sumN (cirP m (sK (a, b, c, d, ()) k) i j) m.toNat, ((k + 1 : Nat) : Int), [a, b, c, d], ()) : S2g)) (by omega) (fun u _ hu => ?_) ?_
  · have hz : A + sumN (cirP m (sK (a, b, c, d, ()) k) i j) 0 = A := by rw [sumN]; omega
    simp only [hz] at this
    exact this
  · have b1 := cirN_bd (m := m) (s := sK (a, b, c, d, ()) k) (i := i) (j := j) u
    have b2 := cir_bd (m := m) (s := sK (a, b, c, d, ()) k) (i := i) (j := j) (u := u)
    unfold g38_l0
    simp only [List.getD_cons_zero, List.getD_cons_succ, Int.toNat_natCast, arr_sK hk]
    rw [cond_t (ilt_iff.2 (by omega)), gd_pos hm1, gd_pos (by omega), gd_pos (by omega), gd_pos (by omega), gd_pos hi, gd_pos (by omega), gd_pos (by omega), gd_pos hm1, gd_pos (by omega), gd_pos (by omega), gd_pos (by omega), gd_pos (by omega), gd_pos (by omega), gd_pos hj]
    have e1 : sgT (sK (a, b, c, d, ()) k) (((u : Int) - i) % m) * sgT (sK (a, b, c, d, ()) k) (((j : Int) - u) % m) = cirP m (sK (a, b, c, d, ()) k) i j u := rfl
    rw [e1, wr_id (n := cirP _ _ _ _ _) (by omega), wr_id (by omega), cast1 (by omega), sumN, Int.add_assoc]
  · unfold g38_l0
    dsimp only
    rw [cond_f (ilt_false.2 (by omega)), cast1 (by omega)]

theorem in38b (h : valQ (m, (a, b, c, d, ()), ()) = true) {i j : Nat} (hi : (i : Int) < m) (hj : (j : Int) < m) :
    whileO (g38_l1 m (((i : Int), [a, b, c, d], ()) : S1g) (((j : Int), [a, b, c, d], ()) : S1g)) (((0 : Int), (0 : Int), [a, b, c, d], ()) : S2g) =
    some (cond (ijQ m a b c d i j) (.go ((((j + 1 : Nat) : Int), [a, b, c, d], ()) : S1g)) (.out (Lp.out ((false, ()) : Bool × Unit)))) := by
  have hm := is135_iff.1 (valQ_iff.1 h).1
  have hbd : ∀ k : Nat, -(k * 5 : Int) ≤ sumN (fun k => sumN (cirP m (sK (a, b, c, d, ()) (k : Int)) i j) m.toNat) k ∧ sumN (fun k => sumN (cirP m (sK (a, b, c, d, ()) (k : Int)) i j) m.toNat) k ≤ (k : Int) * 5 := fun k => sumN_bd fun k _ => by
    have := cirN_bd (m := m) (s := sK (a, b, c, d, ()) (k : Int)) (i := i) (j := j) m.toNat
    omega
  refine whileO_nat (st := fun k => ((sumN (fun k => sumN (cirP m (sK (a, b, c, d, ()) (k : Int)) i j) m.toNat) k, ((k : Nat) : Int), [a, b, c, d], ()) : S2g)) (lo := 0) (hi := 4) (by omega) (fun k _ hk => ?_) ?_
  · unfold g38_l1
    dsimp only
    have b1 := hbd k
    rw [cond_t (ilt_iff.2 (by omega)), gd_pos (by omega)]
    exact in38a h hi hj hk (by omega)
  · unfold g38_l1
    dsimp only
    have e0 : sumN (fun k => sumN (cirP m (sK (a, b, c, d, ()) (k : Int)) i j) m.toNat) 4 = cirS m a b c d i j := rfl
    have hw : wr .i64 (4 * m) = 4 * m := wr_id (by omega)
    rw [cond_f (ilt_false.2 (by omega)), e0, hw, cast1 (by omega), cirS_eq h hi hj]
    unfold ijQ
    by_cases hij : i = j
    · subst hij
      have e1 : ((i : Int) - i) % m = 0 := by rw [Int.sub_self]; exact Int.zero_emod _
      rw [e1, gSum_zero (by omega)]
      have e2 : ieq (i : Int) i = true := ieq_iff.2 rfl
      have e3 : ieq (4 * m) (4 * m) = true := ieq_iff.2 rfl
      simp [e2, e3, gd_true]
    · have e2 : ieq (i : Int) j = false := ieq_false.2 (by omega)
      simp only [e2, decide_eq_false hij, Bool.false_or]
      simp only [ieq_d]
      cases decide (gSum (m, (a, b, c, d, ()), ()) (((j : Int) - i) % m) = 0) <;> simp [gd_true]

theorem in38c (h : valQ (m, (a, b, c, d, ()), ()) = true) {i : Nat} (hi : (i : Int) < m) :
    whileO (g38_l2 m (((i : Int), [a, b, c, d], ()) : S1g)) (((0 : Int), [a, b, c, d], ()) : S1g) =
    some (cond ((List.range m.toNat).all fun j => ijQ m a b c d i j) (.go ((((i + 1 : Nat) : Int), [a, b, c, d], ()) : S1g)) (.out ((false, ()) : Bool × Unit))) := by
  have hm := is135_iff.1 (valQ_iff.1 h).1
  refine whileO_chk (st := fun j : Nat => (((j : Int), [a, b, c, d], ()) : S1g)) (lo := 0) (hi := m.toNat) (Q := fun j => ijQ m a b c d i j) (x := Lp.out ((false, ()) : Bool × Unit)) (y := Lp.go ((((i + 1 : Nat) : Int), [a, b, c, d], ()) : S1g)) (by omega) all_chk (fun j _ hj => ?_) ?_
  · unfold g38_l2
    dsimp only
    rw [cond_t (ilt_iff.2 (by omega)), gd_pos (by simp), in38b h hi (by omega)]
  · unfold g38_l2
    dsimp only
    rw [cond_f (ilt_false.2 (by omega)), cast1 (by omega)]
end

theorem goal38 : con38.goal Try.prog (spOf [con78]) g38_sh [] lm30 := by
  have e : (∀ (m : Int) (s : A4D), valQ (m, s, ()) = true → g38 m s = some (goodF (m, s, ()), ())) = con38.goal Try.prog (spOf [con78]) g38_sh [] lm30 := by kernel_rfl
  rw [← e]
  rintro m ⟨a, b, c, d, _⟩ h
  have hm := is135_iff.1 (valQ_iff.1 h).1
  rw [good_ij h]
  unfold g38
  refine (whileO_chk (st := fun i : Nat => (((i : Int), [a, b, c, d], ()) : S1g)) (lo := 0) (hi := m.toNat) (Q := fun i => (List.range m.toNat).all fun j => ijQ m a b c d i j) (x := ((false, ()) : Bool × Unit)) (y := ((true, ()) : Bool × Unit)) (by omega) all_chk (fun i _ hi => ?_) ?_).trans (by rw [cond_eta])
  · simp only
    rw [cond_t (ilt_iff.2 (by omega)), in38c h (by omega)]
  · simp only
    rw [cond_f (ilt_false.2 (by omega))]
set_option maxRecDepth 100000 in
theorem ok38 : con38.Ok Try.prog := Con.of_goal mixed (okC ok78 okN) con38 goal38

/-! ### Array -/
def bTab : List Int := [0, 1, 2, 3, 1, 0, 3, 2, 2, 3, 0, 1, 3, 2, 1, 0]
def sTab : List Int := [1, 1, 1, 1, -1, 1, -1, 1, -1, 1, 1, -1, -1, -1, 1, 1]
theorem tabs : ∀ a : Nat, a < 4 → ∀ b : Nat, b < 4 → bTab.getD (0 + a * 4 + b * 1) 0 = blkX a b ∧ sTab.getD (0 + a * 4 + b * 1) 0 = (if isNeg a b = true then -1 else 1) := by decide +kernel
abbrev St39 := Int × List Int × List Int × List Int × List Int × Unit
section
variable {m : Nat} {a b c d : Int}
theorem in39 (h : valQ (((m : Nat) : Int), (a, b, c, d, ()), ()) = true) {n i : Nat} (hn : n = 4 * m) (hn16 : n ≤ 16) (hi : i < n) {f : Int → Int → Bool} (hf : f = arrB (((m : Nat) : Int), (a, b, c, d, ()), ())) :
    whileO (g39_l0 (m : Int) (((i : Int), [a, b, c, d], bTab, sTab, partL n f i 0, ()) : St39)) (((0 : Int), [a, b, c, d], bTab, sTab, partL n f i 0, ()) : St39) = some (.go ((((i + 1 : Nat) : Int), [a, b, c, d], bTab, sTab, partL n f (i + 1) 0, ()) : St39)) := by
  have hm1 := (valQ_iff.1 h).1
  have hm := is135_iff.1 hm1
  have hm0 : 0 < m := by omega
  refine whileO_nat (st := fun j => ((((j : Nat) : Int), [a, b, c, d], bTab, sTab, partL n f i j, ()) : St39)) (lo := 0) (hi := n) (by omega) (fun j _ hj => ?_) ?_
  · unfold g39_l0
    dsimp only
    have d1 : i / m < 4 := Nat.div_lt_of_lt_mul (by omega)
    have d2 : j / m < 4 := Nat.div_lt_of_lt_mul (by omega)
    have m1 := Nat.mod_lt i hm0
    have m2 := Nat.mod_lt j hm0
    obtain ⟨t1, t2⟩ := tabs (i / m) d1 (j / m) d2
    have hb := blk_bd (i / m) d1 (j / m) d2
    have hL : ∀ x : Int, 0 ≤ x → x < 4 → List.getD [a, b, c, d] (0 + x.toNat * 1) 0 = sK (a, b, c, d, ()) x := fun x h0 h4 => by
      have : x = 0 ∨ x = 1 ∨ x = 2 ∨ x = 3 := by omega
      rcases this with rfl | rfl | rfl | rfl <;> rfl
    have hsb := sK_bd h hb.1 hb.2
    rw [part_len, cond_t (ilt_iff.2 (by omega))]
    simp only [tdiv_nat, tmod_nat]
    rw [wri (by omega), wri (by omega)]
    simp only [Int.toNat_natCast, t1, t2, hL _ hb.1 hb.2]
    have hl1 : sTab.length = 16 := rfl
    have hl2 : bTab.length = 16 := rfl
    have hx : decide (wr .i64 ((if isNeg ((i / m : Nat) : Int) ((j / m : Nat) : Int) = true then -1 else 1) * sgT (sK (a, b, c, d, ()) (blkX ((i / m : Nat) : Int) ((j / m : Nat) : Int))) ((((j % m : Nat) : Int) - ((i % m : Nat) : Int)) % (m : Int))) < 0) = f i j := by
      rw [hf]
      unfold arrB sgnF
      have e1 : (i : Int) / (m : Int) = ((i / m : Nat) : Int) := rfl
      have e2 : (j : Int) / (m : Int) = ((j / m : Nat) : Int) := rfl
      have e3 : (i : Int) % (m : Int) = ((i % m : Nat) : Int) := rfl
      have e4 : (j : Int) % (m : Int) = ((j % m : Nat) : Int) := rfl
      simp only [e1, e2, e3, e4]
      generalize sK (a, b, c, d, ()) (blkX ((i / m : Nat) : Int) ((j / m : Nat) : Int)) = s
      generalize (((j % m : Nat) : Int) - ((i % m : Nat) : Int)) % (m : Int) = x
      unfold sgT
      cases isNeg ((i / m : Nat) : Int) ((j / m : Nat) : Int) <;> cases s.toNat.testBit x.toNat <;> rfl
    have hmi : (m : Int) ≠ 0 := by omega
    rw [gd_pos hmi, gd_pos hmi, gd_pos ⟨Int.natCast_nonneg _, by omega⟩, gd_pos ⟨Int.natCast_nonneg _, by omega⟩, gd_pos (by rw [hl1]; omega), gd_pos hmi, gd_pos hmi, gd_pos ⟨Int.natCast_nonneg _, by omega⟩, gd_pos ⟨Int.natCast_nonneg _, by omega⟩, gd_pos (by rw [hl2]; omega), gd_pos hb, gd_pos (by show 0 + (blkX ((i / m : Nat) : Int) ((j / m : Nat) : Int)).toNat * 1 < 4; omega), gd_pos hmi, gd_pos hmi, gd_pos hm1, gd_pos hsb.1, gd_pos (by omega), gd_pos (Int.natCast_nonneg _), gd_pos (by omega), gd_pos (Int.natCast_nonneg _), gd_pos (by omega)]
    rw [gd_true, gd_pos (part_ok hn16 hi hj), part_put hn16 hi hj hx.symm]
    simp only [part_len, gd_true]
    rw [cast1 (by omega)]
  · unfold g39_l0
    dsimp only
    rw [part_len, cond_f (ilt_false.2 (by omega))]
    simp only [gd_true]
    rw [part_next, cast1 (by omega)]
end

theorem goal39 : con39.goal Try.prog (spS [con66] [con78]) g39_sh [] lm30 := by
  have e : (∀ (m : Int) (s : A4D), valQ (m, s, ()) = true → m ≤ 4 → g39 m s = some (arrF (m, s, ()), ())) = con39.goal Try.prog (spS [con66] [con78]) g39_sh [] lm30 := by kernel_rfl
  rw [← e]
  rintro m ⟨a, b, c, d, _⟩ h h4
  have hm := is135_iff.1 (valQ_iff.1 h).1
  obtain ⟨m, rfl⟩ : ∃ k : Nat, m = k := ⟨m.toNat, by omega⟩
  have hw : wr .i64 (4 * (m : Int)) = ((4 * m : Nat) : Int) := by rw [wr_id (by omega)]; omega
  unfold g39 arrF
  rw [hw]
  have e4 : (4 * (m : Int)).toNat = 4 * m := by omega
  simp only [Int.toNat_natCast, e4, Nat.le_refl, gd_true]
  generalize hn : 4 * m = n
  rw [gd_pos (by omega), gd_pos (by simp), ← part_0 (f := arrB (((m : Nat) : Int), (a, b, c, d, ()), ()))]
  refine whileO_nat (st := fun i => ((((i : Nat) : Int), [a, b, c, d], bTab, sTab, partL n (arrB (((m : Nat) : Int), (a, b, c, d, ()), ())) i 0, ()) : St39)) (lo := 0) (hi := n) (by omega) (fun i _ hi => ?_) ?_
  · simp only
    rw [cond_t (ilt_iff.2 (by omega)), in39 h hn.symm (by omega) hi rfl]
  · simp only
    rw [cond_f (ilt_false.2 (by omega)), gd_pos (by omega), take_all, part_end]
set_option maxRecDepth 100000 in
theorem ok39 : con39.Ok Try.prog := Con.of_goalS mixed (okC ok78 okN) (okS ok66 okS0) con39 goal39

theorem goal7 : con7.goal Try.prog (spOf [con35, con36, con37, con24, con38, con39, con20]) g7_sh [] lm30 := by
  have e : (∀ (m : Int) (s : A4D), g7 m s = some (true, ())) = con7.goal Try.prog (spOf [con35, con36, con37, con24, con38, con39, con20]) g7_sh [] lm30 := by kernel_rfl
  rw [← e]
  rintro m ⟨a, b, c, d, _⟩
  have hq : ∀ l : List Int, eqLf ieq l l = true := fun l => (eqLf_iff (fun x y => ieq_iff)).2 rfl
  have i00 : ieq 0 0 = true := rfl
  have i22 : ieq 2 2 = true := rfl
  have i66 : ieq 6 6 = true := rfl
  have nn : ((0 : Nat) : Int) = 0 := rfl
  unfold g7 g7_c6 g7_c5 g7_c4 g7_c3 g7_c2 g7_c1 g7_c0
  rw [gd_pos (Nat.le_refl _), gd_pos (Nat.le_refl _), gd_pos (Nat.le_refl _)]
  cases h : valQ (m, (a, b, c, d, ()), ()) with
  | true =>
    obtain ⟨hm1, _, _, _, _⟩ := valQ_iff.1 h
    have hm := is135_iff.1 hm1
    have hG : goodX (m, (a, b, c, d, ()), ()) = (goodF (m, (a, b, c, d, ()), ()), 0, ()) := by rw [goodX, if_pos h]
    have hA : arrX (m, (a, b, c, d, ()), ()) = if m ≤ 4 then (arrF (m, (a, b, c, d, ()), ()), 0, ()) else ([], 6, ()) := by rw [arrX, if_pos h]
    have hsa : m ≤ 4 → small (arrF (m, (a, b, c, d, ()), ())) := fun h4 => small16 (by unfold arrF; rw [made_len]; omega)
    refine whileO_nat (st := fun k : Nat => (((k : Int), [a, b, c, d], ()) : S1g)) (lo := 0) (hi := 4) (by omega) (fun k _ hk => ?_) ?_
    · simp only [Int.toNat_natCast, arr_sK hk]
      rw [cond_t (ilt_iff.2 (by omega)), gd_pos (by omega), sK_seq h hk, hm1, cast1 (by omega)]
      rfl
    · simp only [List.getD_cons_zero, List.getD_cons_succ]
      have hbb : ∀ x : Bool, beqB x x = true := fun x => by cases x <;> rfl
      rw [cond_f (ilt_false.2 (by omega)), gd_pos (by simp)]
      by_cases h4 : m ≤ 4
      · rw [if_pos h4] at hA
        simp only [h, hG, hA, gd_true, hbb, i00, hq, h4, hsa h4, ilt_false.2 h4, Bool.not_true, Bool.not_false, cond_true, cond_false, imp_self, and_self, forall_const, Bool.false_eq_true, Bool.true_eq_false, false_implies, List.length_cons, List.length_nil, Nat.le_refl, Nat.zero_add, Nat.reduceAdd]
      · rw [if_neg h4] at hA
        have h5 : ilt 4 m = true := ilt_iff.2 (by omega)
        simp only [h, hG, hA, gd_true, hbb, i00, i66, nn, h5, Bool.not_true, Bool.not_false, cond_true, cond_false, imp_self, and_self, forall_const, Bool.false_eq_true, Bool.true_eq_false, false_implies, List.length_cons, List.length_nil]
  | false =>
    have hG : goodX (m, (a, b, c, d, ()), ()) = (false, 2, ()) := by rw [goodX, h]; rfl
    have hA : arrX (m, (a, b, c, d, ()), ()) = ([], 2, ()) := by rw [arrX, h]; rfl
    have hall : (List.range 4).all (fun k => is135 m && seqB m (sK (a, b, c, d, ()) k)) = false := by
      rw [Bool.eq_false_iff]
      intro hc
      rw [List.all_eq_true] at hc
      have c0 := hc 0 (by simp)
      have c1 := hc 1 (by simp)
      have c2 := hc 2 (by simp)
      have c3 := hc 3 (by simp)
      rw [Bool.and_eq_true] at c0 c1 c2 c3
      have : valQ (m, (a, b, c, d, ()), ()) = true := valQ_iff.2 ⟨c0.1, c0.2, c1.2, c2.2, c3.2⟩
      rw [h] at this; cases this
    have key : ∀ k, k ≤ 4 → (∃ j, k ≤ j ∧ j < 4 ∧ (is135 m && seqB m (sK (a, b, c, d, ()) (j : Nat))) = false) → ∀ (step : S1g → Option (Lp S1g (Bool × Unit))), (∀ k : Nat, k < 4 → step (((k : Int), [a, b, c, d], ()) : S1g) = some (cond (is135 m && seqB m (sK (a, b, c, d, ()) k)) (.go ((((k + 1 : Nat) : Int), [a, b, c, d], ()) : S1g)) (.out (true, ())))) → whileO step (((k : Int), [a, b, c, d], ()) : S1g) = some (true, ()) := by
      intro k hk
      induction hn : 4 - k generalizing k with
      | zero => rintro ⟨j, h1, h2, _⟩; omega
      | succ n ih =>
        rintro ⟨j, h1, h2, h3⟩ step hstep
        cases hc : is135 m && seqB m (sK (a, b, c, d, ()) (k : Nat)) with
        | true =>
          have hs := hstep k (by omega)
          rw [hc] at hs
          refine (whileO_go hs).trans (ih (k + 1) (by omega) (by omega) ⟨j, ?_, h2, h3⟩ step hstep)
          rcases Nat.lt_or_ge k j with h4 | h4
          · omega
          · have : k = j := by omega
            subst this
            rw [hc] at h3; cases h3
        | false =>
          have hs := hstep k (by omega)
          rw [hc] at hs
          exact whileO_out hs
    have hex : ∃ j, 0 ≤ j ∧ j < 4 ∧ (is135 m && seqB m (sK (a, b, c, d, ()) (j : Nat))) = false := by
      rw [List.all_eq_false] at hall
      obtain ⟨j, hj, h1⟩ := hall
      exact ⟨j, by omega, List.mem_range.1 hj, by simpa using h1⟩
    refine key 0 (by omega) hex _ fun k hk => ?_
    simp only [Int.toNat_natCast, arr_sK hk, hG, hA]
    rw [cond_t (ilt_iff.2 (by omega)), gd_pos (by omega)]
    cases is135 m && seqB m (sK (a, b, c, d, ()) (k : Nat)) with
    | true => rw [cast1 (by omega)]; rfl
    | false => simp [i00, i22, gd_true]
set_option maxRecDepth 100000 in
theorem ok7 : con7.Ok Try.prog := Con.of_goal mixed (okC ok35 (okC ok36 (okC ok37 (okC ok24 (okC ok38 (okC ok39 (okC ok20 okN))))))) con7 goal7

end Go.Signs
