/- All shapes, words, contents: contracts. -/
import Derived.Test.YtobghbapmlnmoaaXI
import Derived.Test.YtobghbapmlnmoaaXG
import Derived.Shelf.Sort.Plain
import Derived.Shelf.Slices.In.SortNone2
import Derived.Test.YtobghbapmlnmoaaProg
import Derived.Test.YtobghbapmlnmoaaAT
import Derived.Sort.OwnSortedInts
set_option linter.unusedVariables false
set_option linter.unusedSimpArgs false
namespace Go.Schur
open Go Go.Ab Go.Proofs
def shF : Nat → Int → Int → List Int → List (List Int)
  | 0, _, _, _ => []
  | f + 1, n, most, b => if n = 0 then [b] else catX (fun x => shF f (n - x) x (b ++ [x])) (min n most).toNat 1
def preS (k:Nat) (n most:Int) (b:List Int) : Prop := 0 ≤ n ∧ n < k ∧ n ≤ 8 ∧ 0 ≤ most ∧ most ≤ 8 ∧ (b.length:Int) + n ≤ 8
noncomputable def con84 (k:Nat) : SCon := mkS 84 [.v I64, .v I64, .v LI] [] [.v LLI] [] (fun (n most:Int) (b:List Int) => [preS k n most b]) (fun (n most:Int) (b:List Int) => (shF k n most b, ()))
noncomputable def g84 (n:Nat) (x0 x1:Int) (x2:List Int) : Option (List (List Int) × Unit) := bif ieq x0 (0:Int) then some ((x2 :: ([]:List (List Int)), ()) : List (List Int) × Unit) else gd ((0:Nat) = (0:Nat)) (whileO (fun (d4 : Int × List (List Int) × Unit) => bif ile d4.1 (imin x0 x1) then gd ((0:Int) ≤ (↑(List.length x2):Int) ∧ (↑(List.length x2):Int) ≤ (↑(List.length x2):Int) ∧ (↑(List.length x2):Int) ≤ (↑(List.length x2):Int)) (gd (List.length x2 < List.length (List.take (List.length x2) x2) + (1:Nat)) (gd ((List.length (List.take (List.length x2) x2) + (1:Nat)) * (8:Nat) ≤ (1099511627776:Nat)) (gd ((0:Nat) + (List.length (List.take (List.length x2) x2) + (1:Nat)) ≤ List.length (List.take (List.length x2) x2 ++ d4.1 :: ([]:List Int))) (gd (preS n (wr IntKind.i64 (x0 - d4.1)) d4.1 (List.take (List.length (List.take (List.length x2) x2) + (1:Nat)) (List.drop (0:Nat) (List.take (List.length x2) x2 ++ d4.1 :: ([]:List Int))))) (gd (List.length d4.2.1 ≤ List.length d4.2.1) (gd ((List.length d4.2.1 + List.length (shF n (wr IntKind.i64 (x0 - d4.1)) d4.1 (List.take (List.length (List.take (List.length x2) x2) + (1:Nat)) (List.drop (0:Nat) (List.take (List.length x2) x2 ++ d4.1 :: ([]:List Int)))))) * (24:Nat) ≤ (1099511627776:Nat)) (gd (List.length d4.2.1 + List.length (shF n (wr IntKind.i64 (x0 - d4.1)) d4.1 (List.take (List.length (List.take (List.length x2) x2) + (1:Nat)) (List.drop (0:Nat) (List.take (List.length x2) x2 ++ d4.1 :: ([]:List Int))))) = List.length (List.take (List.length d4.2.1) d4.2.1 ++ shF n (wr IntKind.i64 (x0 - d4.1)) d4.1 (List.take (List.length (List.take (List.length x2) x2) + (1:Nat)) (List.drop (0:Nat) (List.take (List.length x2) x2 ++ d4.1 :: ([]:List Int)))))) (some (Lp.go ((wr IntKind.i64 (d4.1 + (1:Int)), List.take (List.length d4.2.1) d4.2.1 ++ shF n (wr IntKind.i64 (x0 - d4.1)) d4.1 (List.take (List.length (List.take (List.length x2) x2) + (1:Nat)) (List.drop (0:Nat) (List.take (List.length x2) x2 ++ d4.1 :: ([]:List Int)))), ()) : Int × List (List Int) × Unit)))))))))) else gd ((0:Nat) + List.length d4.2.1 ≤ List.length d4.2.1) (some (Lp.out ((List.take (List.length d4.2.1) (List.drop (0:Nat) d4.2.1), ()) : List (List Int) × Unit)))) (((1:Int), ([]:List (List Int)), ()) : Int × List (List Int) × Unit))
noncomputable def g84_sh : List LSh := LSh.mk (((7, TV.slf (0) (1)) : Nat × TV) :: ((8, TV.v (Ty.int IntKind.i64)) : Nat × TV) :: ([] : List (Nat × TV))) (TB.arr (Ty.slice (Ty.int IntKind.i64)) true :: ([] : List TB)) :: ([] : List LSh)
def shapesF (n:Int) : List (List Int) := (P n.toNat).map toI
noncomputable def con38 : Con := mkC 38 [.d I64] [LLI] (fun (n:Int) => [0 ≤ n ∧ n ≤ 8]) (fun (n:Int) => (shapesF n, ()))
noncomputable def g38 (x0:Int) : Option (List (List Int) × Unit) := gd (preS (9:Nat) x0 x0 ([]:List Int)) (some ((shF (9:Nat) x0 x0 ([]:List Int), ()) : List (List Int) × Unit))
noncomputable def g38_sh : List LSh := ([] : List LSh)
end Go.Schur
set_option linter.unusedVariables false
set_option linter.unusedSimpArgs false
namespace Go.Schur
open Go Go.Ab Go.Proofs
theorem shF_len : ∀ {k : Nat} {n most : Int} {b : List Int}, 0 ≤ n → n ≤ 8 → (shF k n most b).length ≤ 8 ^ n.toNat
  | 0, n, most, b, _, _ => by simp [shF]
  | k + 1, n, most, b, h, h8 => by
    rw [shF]
    split
    · rename_i h0; subst h0; simp
    · obtain ⟨j, hj⟩ : ∃ j : Nat, n = (j:Int) + 1 := ⟨(n - 1).toNat, by omega⟩
      have e : n.toNat = j + 1 := by omega
      rw [e, Nat.pow_succ]
      refine Nat.le_trans (catX_len (B := 8 ^ j) _ _ fun y h1 h2 => ?_) (by rw [Nat.mul_comm]; exact Nat.mul_le_mul_left _ (by omega))
      refine Nat.le_trans (shF_len (by omega) (by omega)) (Nat.pow_le_pow_right (by omega) (by omega))
theorem goal84 (k:Nat) : (con84 (k + 1)).goal Try.prog (spS [con84 k] []) g84_sh [] lm30 := by
  have e : (∀ (n most:Int) (b:List Int), preS (k + 1) n most b → g84 k n most b = some (shF (k + 1) n most b, ())) = (con84 (k + 1)).goal Try.prog (spS [con84 k] []) g84_sh [] lm30 := by kernel_rfl
  rw [← e]
  rintro n most b ⟨h1, h2, h3, h4, h5, h6⟩
  unfold g84
  rw [shF]
  by_cases h0 : n = 0
  · rw [ieq_iff.2 h0, if_pos h0]; rfl
  · rw [ieq_false.2 h0, if_neg h0, cond_false, gd_pos rfl]
    have hmin : imin n most = min n most := by unfold imin; split <;> omega
    have hlen := shF_len (k := k + 1) (n := n) (most := most) (b := b) h1 h3
    rw [shF, if_neg h0] at hlen
    have hpow : 8 ^ n.toNat ≤ 16777216 := Nat.le_trans (Nat.pow_le_pow_right (by omega) (show n.toNat ≤ 8 by omega)) (by decide)
    refine whileO_cat (fun s b => s ++ b) (fun s b => s.length + b.length ≤ 16777216) (fun s => List.append_nil s) (fun s a b => List.append_assoc s a b) (fun s a b h => by simp only [List.length_append] at h ⊢; omega)
      (fun x s => (x, s, ())) (fun s => (s, ())) (fun x => shF k (n - x) x (b ++ [x])) 1 (min n most) ?_ ?_ _ 1 ([]:List (List Int)) (Int.le_refl _) (by omega) (by simpa using (by omega))
    · intro x s hx1 hx2 hs
      have hx' : wr .i64 (x + 1) = x + 1 := wr_id (by omega)
      have hx3 : wr .i64 (n - x) = n - x := wr_id (by omega)
      have hp : preS k (n - x) x (b ++ [x]) := ⟨by omega, by omega, by omega, by omega, by omega, by simp; omega⟩
      simp only [hmin, ile_iff.2 hx2, cond_true, List.take_length, hx', hx3, List.drop_zero]
      have ht : (b ++ [x]).take (b.length + 1) = b ++ [x] := List.take_of_length_le (by simp)
      rw [ht]
      rw [gd_pos ⟨by omega, by omega, by omega⟩, gd_pos (by omega), gd_pos (by omega), gd_pos (by simp), gd_pos hp, gd_pos (Nat.le_refl _), gd_pos (by omega), gd_pos (by simp)]
    · intro x s hx
      simp only [hmin, ile_false.2 hx, cond_false, List.drop_zero, List.take_length]
      rw [gd_pos (by omega)]
set_option maxRecDepth 100000 in
theorem ok84 : ∀ k, (con84 k).Ok Try.prog
  | 0 => scon_false _ (by kernel_rfl) fun n most b p hp h => by
      cases hp
      have h : preS 0 n most b := allP_one.1 h
      have h1 := h.1
      have h2 := h.2.1
      omega
  | k + 1 => SCon.of_goal mixed okN (okS (ok84 k) okS0) (con84 (k + 1)) (goal84 k)
theorem shF_P : ∀ n ∈ List.range 9, shF 9 (n:Nat) (n:Nat) [] = (P n).map toI := by decide +kernel
theorem goal38 : con38.goal Try.prog (spS [con84 9] []) g38_sh [] lm30 := by
  have e : (∀ (n:Int), (0 ≤ n ∧ n ≤ 8) → g38 n = some (shapesF n, ())) = con38.goal Try.prog (spS [con84 9] []) g38_sh [] lm30 := by kernel_rfl
  rw [← e]
  rintro n ⟨h1, h2⟩
  unfold g38 shapesF
  rw [gd_pos ⟨h1, by omega, h2, h1, h2, by simp; omega⟩]
  have := shF_P n.toNat (List.mem_range.2 (by omega))
  rw [show ((n.toNat:Nat):Int) = n by omega] at this
  rw [this]
set_option maxRecDepth 100000 in
theorem ok38 : con38.Ok Try.prog := Con.of_goalS mixed okN (okS (ok84 9) okS0) con38 goal38
end Go.Schur
set_option linter.unusedVariables false
set_option linter.unusedSimpArgs false
namespace Go.Schur
open Go Go.Ab Go.Proofs
end Go.Schur
set_option linter.unusedVariables false
set_option linter.unusedSimpArgs false
namespace Go.Schur
open Go Go.Ab Go.Proofs
end Go.Schur
set_option linter.unusedVariables false
set_option linter.unusedSimpArgs false
namespace Go.Schur
open Go Go.Ab Go.Proofs
end Go.Schur
set_option linter.unusedVariables false
set_option linter.unusedSimpArgs false
namespace Go.Schur
open Go Go.Ab Go.Proofs
end Go.Schur
set_option linter.unusedVariables false
set_option linter.unusedSimpArgs false
namespace Go.Schur
open Go Go.Ab Go.Proofs
end Go.Schur
