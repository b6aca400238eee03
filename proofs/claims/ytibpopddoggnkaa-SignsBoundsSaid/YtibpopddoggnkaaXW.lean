/- Turned over, and products: contracts of the law. -/
import Derived.Test.YtibpopddoggnkaaXU
set_option linter.unusedVariables false
set_option linter.unusedSimpArgs false
namespace Go.Signs
open Go Go.Ab Go.Proofs
def overF (l:List Int) : List Int := madeF l.length (fun i j => isF l j i)
noncomputable def con41 : Con := mkC 41 [.d LI] [LI] (fun (l:List Int) => [isM l 16 = true]) (fun (l:List Int) => (overF l, ()))
noncomputable def g41_l0 (x0:List Int) (d1 d2 : Int × List Int × Unit) : Option (Lp (Int × List Int × Unit) (Lp (Int × List Int × Unit) (List Int × Unit))) := bif ilt d2.1 (↑(List.length x0):Int) then gd ((0:Int) ≤ d2.1 ∧ d2.1 < (↑(List.length d2.2.1):Int)) (gd ((0:Nat) + Int.toNat d2.1 < List.length d2.2.1) (gd ((0:Int) ≤ d2.1) (gd ((0:Int) ≤ d1.1) (gd ((0:Int) ≤ d2.1 ∧ d2.1 < (↑(List.length d2.2.1):Int)) (gd ((0:Nat) + Int.toNat d2.1 < List.length d2.2.1) (gd (List.length d2.2.1 = List.length (List.set d2.2.1 ((0:Nat) + Int.toNat d2.1) (ior IntKind.i64 (List.getD d2.2.1 ((0:Nat) + Int.toNat d2.1) (0:Int)) (ishl IntKind.i64 (iand IntKind.i64 (ishr IntKind.i64 (List.getD x0 (Int.toNat d1.1) (0:Int)) d2.1) (1:Int)) d1.1)))) (some (Lp.go ((wr IntKind.i64 (d2.1 + (1:Int)), List.set d2.2.1 ((0:Nat) + Int.toNat d2.1) (ior IntKind.i64 (List.getD d2.2.1 ((0:Nat) + Int.toNat d2.1) (0:Int)) (ishl IntKind.i64 (iand IntKind.i64 (ishr IntKind.i64 (List.getD x0 (Int.toNat d1.1) (0:Int)) d2.1) (1:Int)) d1.1)), ()) : Int × List Int × Unit))))))))) else gd (List.length d2.2.1 = List.length d2.2.1) (some (Lp.out (Lp.go ((wr IntKind.i64 (d1.1 + (1:Int)), d2.2.1, ()) : Int × List Int × Unit))))
noncomputable def g41 (x0:List Int) : Option (List Int × Unit) := gd ((0:Int) ≤ (↑(List.length x0):Int) ∧ (↑(List.length x0):Int) ≤ (↑(List.length x0):Int) ∧ (↑(List.length x0):Int) * (8:Int) ≤ (1099511627776:Int)) (gd (List.length x0 = List.length (List.replicate (List.length x0) (0:Int))) (whileO (fun (d1 : Int × List Int × Unit) => bif ilt d1.1 (↑(List.length x0):Int) then gd ((0:Int) ≤ d1.1 ∧ d1.1 < (↑(List.length x0):Int)) (gd (List.length d1.2.1 = List.length d1.2.1) (whileO (g41_l0 x0 d1) (((0:Int), d1.2.1, ()) : Int × List Int × Unit))) else gd ((0:Nat) + List.length d1.2.1 ≤ List.length d1.2.1) (some (Lp.out ((List.take (List.length d1.2.1) (List.drop (0:Nat) d1.2.1), ()) : List Int × Unit)))) (((0:Int), List.replicate (List.length x0) (0:Int), ()) : Int × List Int × Unit)))
noncomputable def g41_sh : List LSh := LSh.mk (((3, TV.slf (0) (1)) : Nat × TV) :: ((12, TV.v (Ty.int IntKind.i64)) : Nat × TV) :: ([] : List (Nat × TV))) (TB.arr (Ty.int IntKind.i64) true :: ([] : List TB)) :: LSh.mk (((3, TV.slf (0) (1)) : Nat × TV) :: ((19, TV.v (Ty.int IntKind.i64)) : Nat × TV) :: ([] : List (Nat × TV))) (TB.arr (Ty.int IntKind.i64) true :: ([] : List TB)) :: ([] : List LSh)
end Go.Signs
set_option linter.unusedVariables false
set_option linter.unusedSimpArgs false
namespace Go.Signs
open Go Go.Ab Go.Proofs
section
variable {l : List Int} {m : Int}
theorem made_isM {n : Nat} {f : Int → Int → Bool} (h1 : 1 ≤ n) (h2 : n ≤ 16) : isM (madeF n f) 16 = true := by
  unfold isM
  simp only [Bool.and_eq_true, decide_eq_true_eq, List.all_eq_true, inM_d, made_len, Int.toNat_natCast]
  refine ⟨⟨by omega, by omega⟩, fun x hx => ?_⟩
  obtain ⟨i, hi, rfl⟩ := List.mem_map.1 hx
  have h3 := rowN_lt (g := f i) (j := n)
  have h5 : ((2 ^ n:Nat):Int) = (2:Int) ^ n := by rw [Int.natCast_pow]; rfl
  omega
theorem made_ent {n : Nat} {f : Int → Int → Bool} {i j : Nat} (hi : i < n) (hj : j < n) : ent (madeF n f) i j = sg (f i j) := by
  have : nx (madeF n f) i = rowN (f i) n := by
    unfold nx
    rw [gd_at (by rw [made_len]; exact hi)]
    simp [madeF]
  unfold ent
  rw [this, rowN_bit, decide_eq_true hj, Bool.true_and]
end
end Go.Signs
set_option linter.unusedVariables false
set_option linter.unusedSimpArgs false
namespace Go.Signs
open Go Go.Ab Go.Proofs
def colR (f : Int → Int → Bool) (i j r:Nat) : Nat := if r < j then rowN (f r) (i + 1) else rowN (f r) i
def colL (n:Nat) (f : Int → Int → Bool) (i j:Nat) : List Int := (List.range n).map fun r => (colR f i j r:Int)
section
variable {n i j : Nat} {f : Int → Int → Bool}
theorem col_len : (colL n f i j).length = n := by simp [colL]
theorem col_at (hj : j < n) : (colL n f i j).getD j 0 = (rowN (f j) i:Int) := by
  rw [gd_at (by rw [col_len]; exact hj)]
  simp [colL, colR]
theorem col_set (hj : j < n) : (colL n f i j).set j (rowN (f j) (i + 1):Int) = colL n f i (j + 1) := by
  refine List.ext_getElem (by simp [colL]) fun r h1 h2 => ?_
  rw [List.getElem_set]
  simp only [colL, List.getElem_map, List.getElem_range, colR]
  by_cases h : j = r
  · subst h; rw [if_pos rfl, if_pos (by omega)]
  · rw [if_neg h]
    by_cases h3 : r < j
    · rw [if_pos h3, if_pos (by omega)]
    · rw [if_neg h3, if_neg (by omega)]
theorem col_next : colL n f i n = colL n f (i + 1) 0 := by
  refine List.map_congr_left fun r hr => ?_
  have := List.mem_range.1 hr
  unfold colR
  rw [if_pos this, if_neg (by omega)]
theorem col_0 : colL n f 0 0 = List.replicate n 0 := by
  refine List.ext_getElem (by simp [colL]) fun r h1 h2 => ?_
  simp only [colL, List.getElem_map, List.getElem_range, colR, List.getElem_replicate]
  rw [if_neg (by omega)]
  rfl
theorem col_end : colL n f n 0 = madeF n f := by
  refine List.map_congr_left fun r hr => ?_
  unfold colR
  rw [if_neg (by omega)]
end
theorem in41 {l : List Int} (h : isM l 16 = true) {i : Nat} (hi : i < l.length) {f : Int → Int → Bool} (hf : f = fun i j => isF l j i) : whileO (g41_l0 l (((i:Int), colL l.length f i 0, ()) : Row)) (((0:Int), colL l.length f i 0, ()) : Row) = some (.go ((((i + 1:Nat):Int), colL l.length f (i + 1) 0, ()) : Row)) := by
  have h16 := len16 (by omega) h
  have hp := pow16 (by omega) h
  refine whileO_nat (st := fun j => ((((j:Nat):Int), colL l.length f i j, ()) : Row)) (lo := 0) (hi := l.length) (by omega) (fun j _ hj => ?_) ?_
  · unfold g41_l0
    dsimp only
    obtain ⟨a1, a2⟩ := nx_get h hi
    have hr := rowN_16 (g := f j) (j := i) (by omega)
    have h2 := pow_le16 (j := i) (by omega)
    have hfb : f j i = (nx l i).testBit j := by rw [hf]; exact isF_nx h hi
    have hbit : iand .i64 (ishr .i64 ((nx l i:Nat):Int) (j:Int)) 1 = if (nx l i).testBit j = true then 1 else 0 := by
      have := (bit_nat (x := nx l i) (j := j) (by omega) (by omega)).2
      unfold bit at this
      rwa [Int.toNat_natCast, Int.toNat_natCast] at this
    have hset : (colL l.length f i j).set (0 + (j:Int).toNat) (ior .i64 ((colL l.length f i j).getD (0 + (j:Int).toNat) 0) (ishl .i64 (iand .i64 (ishr .i64 ((nx l i:Nat):Int) (j:Int)) 1) (i:Int))) = colL l.length f i (j + 1) := by
      rw [Int.toNat_natCast, Nat.zero_add, col_at hj, hbit]
      have e : ior .i64 ((rowN (f j) i:Nat):Int) (ishl .i64 (if (nx l i).testBit j = true then 1 else 0) (i:Int)) = ((rowN (f j) (i + 1):Nat):Int) := by
        rw [rowN, hfb]
        cases (nx l i).testBit j with
        | true => rw [if_pos rfl, if_pos rfl, ishl_one (by omega), ior_nat (by omega) (by omega)]
        | false =>
          have hz : ishl .i64 0 (i:Int) = ((0:Nat):Int) := by
            show IntKind.i64.wrap (0 * _) = _
            rw [Int.zero_mul]; rfl
          rw [if_neg (by simp), if_neg (by simp), hz, ior_nat (by omega) (by omega), Nat.or_zero]
      rw [e, col_set hj]
    rw [cond_t (ilt_iff.2 (by omega)), Int.toNat_natCast (n := i), a1]
    rw [gd_pos (by rw [col_len]; omega), gd_pos (by rw [col_len, Int.toNat_natCast]; omega), gd_pos (by omega), gd_pos (by omega), gd_pos (by rw [col_len]; omega), gd_pos (by rw [col_len, Int.toNat_natCast]; omega), gd_pos (by rw [List.length_set]), hset, cast1 (by omega)]
  · unfold g41_l0
    dsimp only
    rw [cond_f (ilt_false.2 (by omega)), gd_pos rfl, col_next, cast1 (by omega)]
theorem goal41 : con41.goal Try.prog (spOf []) g41_sh [] lm30 := by
  have e : (∀ (l:List Int), isM l 16 = true → g41 l = some (overF l, ())) = con41.goal Try.prog (spOf []) g41_sh [] lm30 := by kernel_rfl
  rw [← e]
  intro l h
  have h16 := len16 (by omega) h
  unfold g41
  rw [gd_pos (by omega), gd_pos (by simp), ← col_0 (f := fun i j => isF l j i)]
  refine whileO_nat (st := fun i => ((((i:Nat):Int), colL l.length (fun i j => isF l j i) i 0, ()) : Row)) (lo := 0) (hi := l.length) (by omega) (fun i _ hi => ?_) ?_
  · simp only
    rw [cond_t (ilt_iff.2 (by omega)), gd_pos (by omega), gd_true, in41 h hi rfl]
  · simp only
    rw [cond_f (ilt_false.2 (by omega)), gd_pos (by omega), take_all, col_end]
    rfl
set_option maxRecDepth 100000 in
theorem ok41 : con41.Ok Try.prog := Con.of_goal mixed okN con41 goal41
end Go.Signs
