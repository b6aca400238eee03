/- Best: contracts of the law. -/
import Derived.Test.YtibpopddoggnkaaXT
set_option linter.unusedVariables false
set_option linter.unusedSimpArgs false
namespace Go.Signs
open Go Go.Ab Go.Proofs
def modP (c:Int) (n:Nat) : Nat := (c % (2 ^ n:Nat)).toNat
def rbit (r:Int) (i:Nat) : Bool := decide (r / (2 ^ i:Nat) % 2 = 1)
def turnN (l:List Int) (r c:Int) (i:Nat) : Nat := if rbit r i = true then (nx l i ^^^ modP c l.length) ^^^ (2 ^ l.length - 1) else nx l i ^^^ modP c l.length
def turnF (l:List Int) (r c:Int) : List Int := (List.range l.length).map fun (i:Nat) => (turnN l r c i:Int)
noncomputable def con34 : Con := mkC 34 [.d LI, .d I64, .d I64] [LI] (fun (l:List Int) (r c:Int) => [isM l 16 = true]) (fun (l:List Int) (r c:Int) => (turnF l r c, ()))
noncomputable def g34 (x0:List Int) (x1 x2:Int) : Option (List Int × Unit) := gd ((0:Int) ≤ (↑(List.length x0):Int)) (gd ((0:Nat) = (0:Nat)) (whileO (fun (d3 : Int × List Int × Unit) => bif ilt d3.1 (↑(List.length x0):Int) then gd ((0:Int) ≤ d3.1 ∧ d3.1 < (↑(List.length x0):Int)) (gd ((0:Int) ≤ d3.1) (bif ieq (iand IntKind.i64 (ishr IntKind.i64 x1 d3.1) (1:Int)) (1:Int) then gd (List.length d3.2.1 ≤ List.length d3.2.1) (gd ((List.length d3.2.1 + (1:Nat)) * (8:Nat) ≤ (1099511627776:Nat)) (gd (List.length d3.2.1 + (1:Nat) = List.length (List.take (List.length d3.2.1) d3.2.1 ++ ixor IntKind.i64 (ixor IntKind.i64 (List.getD x0 (Int.toNat d3.1) (0:Int)) (iand IntKind.i64 x2 (wr IntKind.i64 (ishl IntKind.i64 (1:Int) (↑(List.length x0):Int) - (1:Int))))) (wr IntKind.i64 (ishl IntKind.i64 (1:Int) (↑(List.length x0):Int) - (1:Int))) :: ([]:List Int))) (some (Lp.go ((wr IntKind.i64 (d3.1 + (1:Int)), List.take (List.length d3.2.1) d3.2.1 ++ ixor IntKind.i64 (ixor IntKind.i64 (List.getD x0 (Int.toNat d3.1) (0:Int)) (iand IntKind.i64 x2 (wr IntKind.i64 (ishl IntKind.i64 (1:Int) (↑(List.length x0):Int) - (1:Int))))) (wr IntKind.i64 (ishl IntKind.i64 (1:Int) (↑(List.length x0):Int) - (1:Int))) :: ([]:List Int), ()) : Int × List Int × Unit))))) else gd (List.length d3.2.1 ≤ List.length d3.2.1) (gd ((List.length d3.2.1 + (1:Nat)) * (8:Nat) ≤ (1099511627776:Nat)) (gd (List.length d3.2.1 + (1:Nat) = List.length (List.take (List.length d3.2.1) d3.2.1 ++ ixor IntKind.i64 (List.getD x0 (Int.toNat d3.1) (0:Int)) (iand IntKind.i64 x2 (wr IntKind.i64 (ishl IntKind.i64 (1:Int) (↑(List.length x0):Int) - (1:Int)))) :: ([]:List Int))) (some (Lp.go ((wr IntKind.i64 (d3.1 + (1:Int)), List.take (List.length d3.2.1) d3.2.1 ++ ixor IntKind.i64 (List.getD x0 (Int.toNat d3.1) (0:Int)) (iand IntKind.i64 x2 (wr IntKind.i64 (ishl IntKind.i64 (1:Int) (↑(List.length x0):Int) - (1:Int)))) :: ([]:List Int), ()) : Int × List Int × Unit))))))) else gd ((0:Nat) + List.length d3.2.1 ≤ List.length d3.2.1) (some (Lp.out ((List.take (List.length d3.2.1) (List.drop (0:Nat) d3.2.1), ()) : List Int × Unit)))) (((0:Int), ([]:List Int), ()) : Int × List Int × Unit)))
noncomputable def g34_sh : List LSh := LSh.mk (((7, TV.slf (0) (1)) : Nat × TV) :: ((17, TV.v (Ty.int IntKind.i64)) : Nat × TV) :: ([] : List (Nat × TV))) (TB.arr (Ty.int IntKind.i64) true :: ([] : List TB)) :: ([] : List LSh)
end Go.Signs
set_option linter.unusedVariables false
set_option linter.unusedSimpArgs false
namespace Go.Signs
open Go Go.Ab Go.Proofs
theorem iand_mod {c : Int} {n : Nat} (hn : n ≤ 16) : iand .i64 c ((2 ^ n - 1:Nat):Int) = (modP c n:Int) := by
  have hp := pow_le16 hn
  have h1 : 1 ≤ 2 ^ n := Nat.one_le_two_pow
  show IntKind.i64.wrap (BitVec.ofInt 64 c &&& BitVec.ofInt 64 ((2 ^ n - 1:Nat):Int)).toNat = _
  rw [BitVec.toNat_and, bv_nat (by omega), BitVec.toNat_ofInt, Nat.and_two_pow_sub_one_eq_mod]
  have e : (c % ((2 ^ 64:Nat):Int)).toNat % 2 ^ n = modP c n := by
    unfold modP
    have hd : ((2 ^ n:Nat):Int) ∣ ((2 ^ 64:Nat):Int) := Int.natCast_dvd_natCast.2 (Nat.pow_dvd_pow 2 (by omega))
    have h2 := Int.emod_emod_of_dvd c hd
    have h3 : 0 ≤ c % ((2 ^ 64:Nat):Int) := Int.emod_nonneg _ (by decide)
    rw [← h2]
    obtain ⟨y, hy⟩ : ∃ y : Nat, c % ((2 ^ 64:Nat):Int) = y := ⟨_, (Int.toNat_of_nonneg h3).symm⟩
    rw [hy, Int.toNat_natCast, ← Int.natCast_emod, Int.toNat_natCast]
  rw [e]
  have : modP c n < 2 ^ n := by rw [← e]; exact Nat.mod_lt _ (by omega)
  exact wrap_nat (by omega)
theorem modP_lt {c : Int} {n : Nat} : modP c n < 2 ^ n := by
  have h1 : 1 ≤ 2 ^ n := Nat.one_le_two_pow
  have h3 : 0 ≤ c % ((2 ^ n:Nat):Int) := Int.emod_nonneg _ (by omega)
  have h4 : c % ((2 ^ n:Nat):Int) < ((2 ^ n:Nat):Int) := Int.emod_lt_of_pos _ (by omega)
  unfold modP; omega
theorem rbit_eq {r : Int} {i : Nat} (hi : i ≤ 16) : ieq (iand .i64 (ishr .i64 r i) 1) 1 = rbit r i := by
  have h1 : ishr .i64 r (i:Int) = r / ((2 ^ i:Nat):Int) := by
    show Int.fdiv r (2 ^ (min (i:Int).toNat 64)) = _
    rw [Int.toNat_natCast, Nat.min_eq_left (by omega)]
    have : (2:Int) ^ i = ((2 ^ i:Nat):Int) := by rw [Int.natCast_pow]; rfl
    rw [this, Int.fdiv_eq_ediv_of_nonneg _ (Int.natCast_nonneg _)]
  have h2 := iand_mod (c := ishr .i64 r (i:Int)) (n := 1) (by omega)
  have h3 : ((2 ^ 1 - 1:Nat):Int) = 1 := rfl
  rw [h3] at h2
  rw [h2, h1]
  unfold rbit modP
  rw [ieq_d]
  have h4 : ((2 ^ 1:Nat):Int) = 2 := rfl
  rw [h4]
  generalize r / ((2 ^ i:Nat):Int) = x
  exact decide_eq_decide.2 (by omega)
section
variable {l : List Int} {r c : Int} {m : Int}
theorem turn_len : (turnF l r c).length = l.length := by simp [turnF]
theorem turn_lt (h : isM l m = true) {i : Nat} (hi : i < l.length) : turnN l r c i < 2 ^ l.length := by
  have h1 := xor_lt (nx_get h hi).2 (modP_lt (c := c) (n := l.length))
  have h2 : 1 ≤ 2 ^ l.length := Nat.one_le_two_pow
  unfold turnN
  split
  · exact xor_lt h1 (by omega)
  · exact h1
theorem turn_at {i : Nat} (hi : i < l.length) : (turnF l r c).getD i 0 = (turnN l r c i:Int) := by
  rw [gd_at (by rw [turn_len]; exact hi)]
  simp [turnF]
theorem turn_nx {i : Nat} (hi : i < l.length) : nx (turnF l r c) i = turnN l r c i := by
  unfold nx
  rw [turn_at hi, Int.toNat_natCast]
theorem turn_isM (h : isM l m = true) : isM (turnF l r c) m = true := by
  obtain ⟨h1, h2, _⟩ := isM_spec h
  unfold isM
  simp only [Bool.and_eq_true, decide_eq_true_eq, List.all_eq_true, inM_d, turn_len, Int.toNat_natCast]
  refine ⟨⟨by omega, h2⟩, fun x hx => ?_⟩
  obtain ⟨i, hi, rfl⟩ := List.mem_map.1 hx
  have := turn_lt (r := r) (c := c) h (List.mem_range.1 hi)
  have h5 : ((2 ^ l.length:Nat):Int) = (2:Int) ^ l.length := by rw [Int.natCast_pow]; rfl
  omega
theorem turn_ent {i j : Nat} (hi : i < l.length) (hj : j < l.length) : ent (turnF l r c) i j = ent l i j * sg ((modP c l.length).testBit j) * sg (rbit r i) := by
  unfold ent
  rw [turn_nx hi]
  unfold turnN
  cases hr : rbit r i with
  | true =>
    rw [if_pos rfl, Nat.testBit_xor, Nat.testBit_xor, Nat.testBit_two_pow_sub_one, decide_eq_true hj, sg_xor, sg_xor]
  | false =>
    rw [if_neg (by simp), Nat.testBit_xor, sg_xor]
    exact (Int.mul_one _).symm
def dotR (l:List Int) (i k:Nat) : Int := sumN (fun j => ent l i j * ent l k j) l.length
theorem dot_pop {l : List Int} (h : isM l 16 = true) {i k : Nat} (hi : i < l.length) (hk : k < l.length) : dotR l i k = l.length - 2 * (popN (nx l i ^^^ nx l k):Int) := by
  rw [← sum_pop (len16 (by omega) h).1 (xor_lt (nx_get h hi).2 (nx_get h hk).2)]
  exact sumN_congr fun j _ => by rw [Nat.testBit_xor, sg_xor]; rfl
theorem bal_dot {l : List Int} (h : isM l 16 = true) : balF l = true ↔ ∀ i k, i < l.length → k < l.length → i ≠ k → dotR l i k = 0 := by
  unfold balF
  simp only [List.all_eq_true, List.mem_range, decide_eq_true_eq]
  constructor
  · intro hb i k hi hk hne
    rw [dot_pop h hi hk]
    rcases Nat.lt_or_ge k i with hlt | hge
    · have := hb i hi k hlt; omega
    · have := hb k hk i (by omega)
      rw [Nat.xor_comm] at this
      omega
  · intro hb i hi k hk
    have := hb i k hi (by omega) (by omega)
    rw [dot_pop h hi (by omega)] at this
    omega
end
end Go.Signs
set_option linter.unusedVariables false
set_option linter.unusedSimpArgs false
namespace Go.Signs
open Go Go.Ab Go.Proofs
theorem turn_take {l : List Int} {r c : Int} {i : Nat} (hi : i < l.length) : (turnF l r c).take (i + 1) = (turnF l r c).take i ++ [(turnN l r c i:Int)] := by
  have hl : i < (turnF l r c).length := by rw [turn_len]; exact hi
  rw [List.take_succ_eq_append_getElem hl]
  congr 2
  simp [turnF]
theorem goal34 : con34.goal Try.prog (spOf []) g34_sh [] lm30 := by
  have e : (∀ (l:List Int) (r c:Int), isM l 16 = true → g34 l r c = some (turnF l r c, ())) = con34.goal Try.prog (spOf []) g34_sh [] lm30 := by kernel_rfl
  rw [← e]
  intro l r c h
  have h16 := len16 (by omega) h
  have hp := pow16 (by omega) h
  have h1 : 1 ≤ 2 ^ l.length := Nat.one_le_two_pow
  have hall : wr .i64 (ishl .i64 1 (l.length:Int) - 1) = ((2 ^ l.length - 1:Nat):Int) := by
    rw [ishl_one h16.1, wr_id (by omega)]; omega
  have hc : iand .i64 c ((2 ^ l.length - 1:Nat):Int) = (modP c l.length:Int) := iand_mod h16.1
  have hcl := modP_lt (c := c) (n := l.length)
  unfold g34
  rw [gd_pos (by omega), gd_pos rfl]
  simp only [hall, hc]
  refine whileO_nat (st := fun i => ((((i:Nat):Int), (turnF l r c).take i, ()) : Row)) (lo := 0) (hi := l.length) (by omega) (fun i _ hi => ?_) ?_
  · simp only
    obtain ⟨a1, a2⟩ := nx_get h hi
    have hx := xor_lt a2 hcl
    have hl : ((turnF l r c).take i).length = i := by rw [List.length_take, turn_len]; omega
    have ht : List.take i ((turnF l r c).take i) = (turnF l r c).take i := by rw [List.take_take, Nat.min_self]
    rw [rbit_eq (by omega), Int.toNat_natCast, a1, ixor_nat (by omega) (by omega), ixor_nat (by omega) (by omega), turn_take hi]
    rw [cond_t (ilt_iff.2 (by omega)), gd_pos (by omega), gd_pos (by omega)]
    simp only [hl, ht, Nat.le_refl, gd_true, List.length_append, List.length_singleton]
    unfold turnN
    cases hb : rbit r i with
    | true =>
      rw [cond_t rfl, gd_pos (by omega), if_pos rfl, cast1 (by omega)]
    | false =>
      rw [cond_f rfl, gd_pos (by omega), if_neg (by simp), cast1 (by omega)]
  · simp only
    have hl : (turnF l r c).take l.length = turnF l r c := by rw [List.take_of_length_le (by rw [turn_len]; omega)]
    rw [cond_f (ilt_false.2 (by omega)), gd_pos (by omega), take_all, hl]
set_option maxRecDepth 100000 in
theorem ok34 : con34.Ok Try.prog := Con.of_goal mixed okN con34 goal34
end Go.Signs
set_option linter.unusedVariables false
set_option linter.unusedSimpArgs false
namespace Go.Signs
open Go Go.Ab Go.Proofs
abbrev A4D := Int × Int × Int × Int × Unit
def l4 (s : A4D) : List Int := [s.1, s.2.1, s.2.2.1, s.2.2.2.1]
end Go.Signs
set_option linter.unusedVariables false
set_option linter.unusedSimpArgs false
namespace Go.Signs
open Go Go.Ab Go.Proofs
section
variable {m a b c d : Int}
end
end Go.Signs
set_option linter.unusedVariables false
set_option linter.unusedSimpArgs false
namespace Go.Signs
open Go Go.Ab Go.Proofs
end Go.Signs
set_option linter.unusedVariables false
set_option linter.unusedSimpArgs false
namespace Go.Signs
open Go Go.Ab Go.Proofs
section
variable {m a b c d : Int}
end
section
variable {m : Nat} {a b c d : Int}
end
end Go.Signs
