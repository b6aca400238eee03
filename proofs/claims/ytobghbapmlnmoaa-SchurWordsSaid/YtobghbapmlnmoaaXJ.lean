/- All shapes, words, contents: contracts. -/
import Derived.Test.YtobghbapmlnmoaaXI
import Derived.Test.YtobghbapmlnmoaaXG
set_option linter.unusedVariables false
set_option linter.unusedSimpArgs false
namespace Go.Schur
open Go Go.Ab Go.Proofs
/-- The reference's shapes. -/
def shF : Nat → Int → Int → List Int → List (List Int)
  | 0, _, _, _ => []
  | f + 1, n, most, b => if n = 0 then [b] else catX (fun x => shF f (n - x) x (b ++ [x])) (min n most).toNat 1
def preS (k : Nat) (n most : Int) (b : List Int) : Prop := 0 ≤ n ∧ n < k ∧ n ≤ 8 ∧ 0 ≤ most ∧ most ≤ 8 ∧ (b.length : Int) + n ≤ 8
noncomputable def con84 (k : Nat) : SCon := mkS 84 [.v I64, .v I64, .v LI] [] [.v LLI] [] (fun (n most : Int) (b : List Int) => [preS k n most b]) (fun (n most : Int) (b : List Int) => (shF k n most b, ()))
noncomputable def g84 (n : Nat) (x0 x1 : Int) (x2 : List Int) : Option (List (List Int) × Unit) := bif ieq x0 (0 : Int) then some ((x2 :: ([] : List (List Int)), ()) : List (List Int) × Unit) else gd ((0 : Nat) = (0 : Nat)) (whileO (fun (d4 : Int × List (List Int) × Unit) => bif ile d4.1 (imin x0 x1) then gd ((0 : Int) ≤ (↑(List.length x2) : Int) ∧ (↑(List.length x2) : Int) ≤ (↑(List.length x2) : Int) ∧ (↑(List.length x2) : Int) ≤ (↑(List.length x2) : Int)) (gd (List.length x2 < List.length (List.take (List.length x2) x2) + (1 : Nat)) (gd ((List.length (List.take (List.length x2) x2) + (1 : Nat)) * (8 : Nat) ≤ (1099511627776 : Nat)) (gd ((0 : Nat) + (List.length (List.take (List.length x2) x2) + (1 : Nat)) ≤ List.length (List.take (List.length x2) x2 ++ d4.1 :: ([] : List Int))) (gd (preS n (wr IntKind.i64 (x0 - d4.1)) d4.1 (List.take (List.length (List.take (List.length x2) x2) + (1 : Nat)) (List.drop (0 : Nat) (List.take (List.length x2) x2 ++ d4.1 :: ([] : List Int))))) (gd (List.length d4.2.1 ≤ List.length d4.2.1) (gd ((List.length d4.2.1 + List.length (shF n (wr IntKind.i64 (x0 - d4.1)) d4.1 (List.take (List.length (List.take (List.length x2) x2) + (1 : Nat)) (List.drop (0 : Nat) (List.take (List.length x2) x2 ++ d4.1 :: ([] : List Int)))))) * (24 : Nat) ≤ (1099511627776 : Nat)) (gd (List.length d4.2.1 + List.length (shF n (wr IntKind.i64 (x0 - d4.1)) d4.1 (List.take (List.length (List.take (List.length x2) x2) + (1 : Nat)) (List.drop (0 : Nat) (List.take (List.length x2) x2 ++ d4.1 :: ([] : List Int))))) = List.length (List.take (List.length d4.2.1) d4.2.1 ++ shF n (wr IntKind.i64 (x0 - d4.1)) d4.1 (List.take (List.length (List.take (List.length x2) x2) + (1 : Nat)) (List.drop (0 : Nat) (List.take (List.length x2) x2 ++ d4.1 :: ([] : List Int)))))) (some (Lp.go ((wr IntKind.i64 (d4.1 + (1 : Int)), List.take (List.length d4.2.1) d4.2.1 ++ shF n (wr IntKind.i64 (x0 - d4.1)) d4.1 (List.take (List.length (List.take (List.length x2) x2) + (1 : Nat)) (List.drop (0 : Nat) (List.take (List.length x2) x2 ++ d4.1 :: ([] : List Int)))), ()) : Int × List (List Int) × Unit)))))))))) else gd ((0 : Nat) + List.length d4.2.1 ≤ List.length d4.2.1) (some (Lp.out ((List.take (List.length d4.2.1) (List.drop (0 : Nat) d4.2.1), ()) : List (List Int) × Unit)))) (((1 : Int), ([] : List (List Int)), ()) : Int × List (List Int) × Unit))
noncomputable def g84_sh : List LSh := LSh.mk (((7, TV.slf (0) (1)) : Nat × TV) :: ((8, TV.v (Ty.int IntKind.i64)) : Nat × TV) :: ([] : List (Nat × TV))) (TB.arr (Ty.slice (Ty.int IntKind.i64)) true :: ([] : List TB)) :: ([] : List LSh)
def shapesF (n : Int) : List (List Int) := (P n.toNat).map toI
noncomputable def con38 : Con := mkC 38 [.d I64] [LLI] (fun (n : Int) => [0 ≤ n ∧ n ≤ 8]) (fun (n : Int) => (shapesF n, ()))
noncomputable def g38 (x0 : Int) : Option (List (List Int) × Unit) := gd (preS (9 : Nat) x0 x0 ([] : List Int)) (some ((shF (9 : Nat) x0 x0 ([] : List Int), ()) : List (List Int) × Unit))
noncomputable def g38_sh : List LSh := ([] : List LSh)
noncomputable def con8 : Con := mkC 8 [.d LI] [.bool] (fun (m : List Int) => [small m]) (fun (m : List Int) => (true, ()))
noncomputable def g8_l0 (x0 : List Int) (d2 d3 : Int × Int × Unit) : Option (Lp (Int × Int × Unit) (Lp (Int × Int × Unit) (Lp (Int × Int × Unit) (Bool × Unit)))) := bif ilt d3.2.1 (List.getD x0 (Int.toNat d2.2.1) (0 : Int)) then gd (wr IntKind.i64 (d3.2.1 + (1 : Int)) ≠ (0 : Int)) (some (Lp.go ((wr IntKind.i64 (Int.tdiv d3.1 (wr IntKind.i64 (d3.2.1 + (1 : Int)))), wr IntKind.i64 (d3.2.1 + (1 : Int)), ()) : Int × Int × Unit))) else some (Lp.out (Lp.go ((d3.1, wr IntKind.i64 (d2.2.1 + (1 : Int)), ()) : Int × Int × Unit)))
noncomputable def g8 (x0 : List Int) : Option (Bool × Unit) := gd (small x0) (bif !contB x0 then gd ((1 : Nat) ≤ (1000 : Nat) ∧ List.length (List.take (12 : Nat) x0) ≤ (1000 : Nat)) (gd (ieq (kosF ((1 : Int) :: ([] : List Int)) (List.take (12 : Nat) x0)).2.1 (2 : Int) = true → ieq (kosF ((1 : Int) :: ([] : List Int)) (List.take (12 : Nat) x0)).2.1 (2 : Int) = true) (some ((bif ieq (kosF ((1 : Int) :: ([] : List Int)) (List.take (12 : Nat) x0)).2.1 (2 : Int) then true else false, ()) : Bool × Unit))) else gd (List.length x0 ≤ (1000 : Nat)) (whileO (fun (d1 : Int × Int × Unit) => bif ilt d1.2.1 (boxW x0) then some (Lp.go ((wr IntKind.i64 (d1.1 * wr IntKind.i64 (d1.2.1 + (1 : Int))), wr IntKind.i64 (d1.2.1 + (1 : Int)), ()) : Int × Int × Unit)) else whileO (fun (d2 : Int × Int × Unit) => bif ilt d2.2.1 (↑(List.length x0) : Int) then gd ((0 : Int) ≤ d2.2.1 ∧ d2.2.1 < (↑(List.length x0) : Int)) (whileO (g8_l0 x0 d2) ((d2.1, (0 : Int), ()) : Int × Int × Unit)) else gd ((0 : Int) ≤ boxW x0 ∧ boxW x0 ≤ (8 : Int)) (whileO (fun (d3 : Int × Int × Unit) => bif ilt d3.2.1 (↑(List.length (shapesF (boxW x0))) : Int) then gd ((0 : Int) ≤ d3.2.1 ∧ d3.2.1 < (↑(List.length (shapesF (boxW x0))) : Int)) (gd (List.length (List.getD (shapesF (boxW x0)) (Int.toNat d3.2.1) ([] : List Int)) ≤ (100000 : Nat)) (gd (List.length (List.getD (shapesF (boxW x0)) (Int.toNat d3.2.1) ([] : List Int)) ≤ (1000 : Nat) ∧ List.length (List.take (12 : Nat) x0) ≤ (1000 : Nat)) (gd (List.length (List.getD (shapesF (boxW x0)) (Int.toNat d3.2.1) ([] : List Int)) ≤ (100000 : Nat)) (gd (List.length (List.getD (shapesF (boxW x0)) (Int.toNat d3.2.1) ([] : List Int)) ≤ (1000 : Nat)) (gd ((!!ieq (kosF (List.getD (shapesF (boxW x0)) (Int.toNat d3.2.1) ([] : List Int)) (List.take (12 : Nat) x0)).2.1 (0 : Int)) = true → (!!ieq (kosF (List.getD (shapesF (boxW x0)) (Int.toNat d3.2.1) ([] : List Int)) (List.take (12 : Nat) x0)).2.1 (0 : Int)) = true) (gd ((!ieq (kosF (List.getD (shapesF (boxW x0)) (Int.toNat d3.2.1) ([] : List Int)) (List.take (12 : Nat) x0)).2.1 (0 : Int)) = false → (!!ieq (kosF (List.getD (shapesF (boxW x0)) (Int.toNat d3.2.1) ([] : List Int)) (List.take (12 : Nat) x0)).2.1 (0 : Int)) = true) (bif bif !ieq (kosF (List.getD (shapesF (boxW x0)) (Int.toNat d3.2.1) ([] : List Int)) (List.take (12 : Nat) x0)).2.1 (0 : Int) then true else !ieq (stdF (List.getD (shapesF (boxW x0)) (Int.toNat d3.2.1) ([] : List Int))).2.1 (0 : Int) then some (Lp.out (Lp.out (Lp.out ((false, ()) : Bool × Unit)))) else some (Lp.go ((wr IntKind.i64 (d3.1 + wr IntKind.i64 ((kosF (List.getD (shapesF (boxW x0)) (Int.toNat d3.2.1) ([] : List Int)) (List.take (12 : Nat) x0)).1 * (stdF (List.getD (shapesF (boxW x0)) (Int.toNat d3.2.1) ([] : List Int))).1)), wr IntKind.i64 (d3.2.1 + (1 : Int)), ()) : Int × Int × Unit))))))))) else gd (ieq d3.1 d2.1 = true → ieq d3.1 d2.1 = true) (some (Lp.out (Lp.out (Lp.out ((bif ieq d3.1 d2.1 then true else false, ()) : Bool × Unit)))))) (((0 : Int), (0 : Int), ()) : Int × Int × Unit))) ((d1.1, (0 : Int), ()) : Int × Int × Unit)) (((1 : Int), (0 : Int), ()) : Int × Int × Unit)))
noncomputable def g8_sh : List LSh := LSh.mk (((6, TV.v (Ty.int IntKind.i64)) : Nat × TV) :: ((36, TV.v (Ty.int IntKind.i64)) : Nat × TV) :: ([] : List (Nat × TV))) ([] : List TB) :: LSh.mk (((6, TV.v (Ty.int IntKind.i64)) : Nat × TV) :: ((46, TV.v (Ty.int IntKind.i64)) : Nat × TV) :: ([] : List (Nat × TV))) ([] : List TB) :: LSh.mk (((6, TV.v (Ty.int IntKind.i64)) : Nat × TV) :: ((51, TV.v (Ty.int IntKind.i64)) : Nat × TV) :: ([] : List (Nat × TV))) ([] : List TB) :: LSh.mk (((11, TV.v (Ty.int IntKind.i64)) : Nat × TV) :: ((63, TV.v (Ty.int IntKind.i64)) : Nat × TV) :: ([] : List (Nat × TV))) ([] : List TB) :: ([] : List LSh)

end Go.Schur

set_option linter.unusedVariables false
set_option linter.unusedSimpArgs false
namespace Go.Schur
open Go Go.Ab Go.Proofs

theorem shF_len : ∀ {k : Nat} {n most : Int} {b : List Int}, 0 ≤ n → n ≤ 8 → (shF k n most b).length ≤ 8 ^ n.toNat
  | 0, n, most, b, _, _ => by simp [shF]
  | k + 1, n, most, b, h, h8 => by
    rw [shF]
    split
    · rename_i h0; subst h0; simp
    · obtain ⟨j, hj⟩ : ∃ j : Nat, n = (j : Int) + 1 := ⟨(n - 1).toNat, by omega⟩
      have e : n.toNat = j + 1 := by omega
      rw [e, Nat.pow_succ]
      refine Nat.le_trans (catX_len (B := 8 ^ j) _ _ fun y h1 h2 => ?_) (by rw [Nat.mul_comm]; exact Nat.mul_le_mul_left _ (by omega))
      refine Nat.le_trans (shF_len (by omega) (by omega)) (Nat.pow_le_pow_right (by omega) (by omega))

theorem goal84 (k : Nat) : (con84 (k + 1)).goal Try.prog (spS [con84 k] []) g84_sh [] lm30 := by
  have e : (∀ (n most : Int) (b : List Int), preS (k + 1) n most b → g84 k n most b = some (shF (k + 1) n most b, ())) = (con84 (k + 1)).goal Try.prog (spS [con84 k] []) g84_sh [] lm30 := by kernel_rfl
  rw [← e]
  rintro n most b ⟨h1, h2, h3, h4, h5, h6⟩
  unfold g84
  rw [shF]
  by_cases h0 : n = 0
  · rw [ieq_iff.2 h0, if_pos h0]; rfl
  · rw [ieq_false.2 h0, if_neg h0, cond_false, gd_pos rfl]
    have hmin : imin n most = min n most := by unfold imin; split <;> omega
    have hlen := shF_len (k := k + 1) (n := n) (most := most) (b := b) h1 h3
    rw [shF, if_neg h0] at hlen
    have hpow : 8 ^ n.toNat ≤ 16777216 := Nat.le_trans (Nat.pow_le_pow_right (by omega) (show n.toNat ≤ 8 by omega)) (by decide)
    refine whileO_cat (fun s b => s ++ b) (fun s b => s.length + b.length ≤ 16777216) (fun s => List.append_nil s) (fun s a b => List.append_assoc s a b) (fun s a b h => by simp only [List.length_append] at h ⊢; omega)
      (fun x s => (x, s, ())) (fun s => (s, ())) (fun x => shF k (n - x) x (b ++ [x])) 1 (min n most) ?_ ?_ _ 1 ([] : List (List Int)) (Int.le_refl _) (by omega) (by simpa using (by omega))
    · intro x s hx1 hx2 hs
      have hx' : wr .i64 (x + 1) = x + 1 := wr_id (by omega)
      have hx3 : wr .i64 (n - x) = n - x := wr_id (by omega)
      have hp : preS k (n - x) x (b ++ [x]) := ⟨by omega, by omega, by omega, by omega, by omega, by simp; omega⟩
      simp only [hmin, ile_iff.2 hx2, cond_true, List.take_length, hx', hx3, List.drop_zero]
      have ht : (b ++ [x]).take (b.length + 1) = b ++ [x] := List.take_of_length_le (by simp)
      rw [ht]
      rw [gd_pos ⟨by omega, by omega, by omega⟩, gd_pos (by omega), gd_pos (by omega), gd_pos (by simp), gd_pos hp, gd_pos (Nat.le_refl _), gd_pos (by omega), gd_pos (by simp)]
    · intro x s hx
      simp only [hmin, ile_false.2 hx, cond_false, List.drop_zero, List.take_length]
      rw [gd_pos (by omega)]
set_option maxRecDepth 100000 in
theorem ok84 : ∀ k, (con84 k).Ok Try.prog
  | 0 => scon_false _ (by kernel_rfl) fun n most b p hp h => by
      cases hp
      have h : preS 0 n most b := allP_one.1 h
      have h1 := h.1
      have h2 := h.2.1
      omega
  | k + 1 => SCon.of_goal mixed okN (okS (ok84 k) okS0) (con84 (k + 1)) (goal84 k)
theorem shF_P : ∀ n ∈ List.range 9, shF 9 (n : Nat) (n : Nat) [] = (P n).map toI := by decide +kernel
theorem goal38 : con38.goal Try.prog (spS [con84 9] []) g38_sh [] lm30 := by
  have e : (∀ (n : Int), (0 ≤ n ∧ n ≤ 8) → g38 n = some (shapesF n, ())) = con38.goal Try.prog (spS [con84 9] []) g38_sh [] lm30 := by kernel_rfl
  rw [← e]
  rintro n ⟨h1, h2⟩
  unfold g38 shapesF
  rw [gd_pos ⟨h1, by omega, h2, h1, h2, by simp; omega⟩]
  have := shF_P n.toNat (List.mem_range.2 (by omega))
  rw [show ((n.toNat : Nat) : Int) = n by omega] at this
  rw [this]
set_option maxRecDepth 100000 in
theorem ok38 : con38.Ok Try.prog := Con.of_goalS mixed okN (okS (ok84 9) okS0) con38 goal38
end Go.Schur

set_option linter.unusedVariables false
set_option linter.unusedSimpArgs false
namespace Go.Schur
open Go Go.Ab Go.Proofs

theorem fct_le : ∀ n ∈ List.range 9, 0 < fct n ∧ fct n ≤ 40320 := by decide
theorem fct_bd {n : Nat} (h : n ≤ 8) : 0 < fct n ∧ fct n ≤ 40320 := fct_le n (List.mem_range.2 (by omega))
theorem cont_toI {m : List Int} (h : contB m = true) : ∃ q : List Nat, m = toI q ∧ q.length ≤ 8 ∧ q.sum ≤ 8 := by
  obtain ⟨h1, h2, h3⟩ := contB_iff.1 h
  have e := toI_toNat (l := m) (fun x hx => (h2 x hx).1)
  refine ⟨m.map Int.toNat, e.symm, by simpa using h1, ?_⟩
  have := toI_sum (p := m.map Int.toNat)
  rw [e] at this
  omega
theorem stdF_P {n : Nat} {p : List Nat} (hn : n ≤ 8) (hp : p ∈ P n) : stdF (toI p) = (((hkN p : Nat) : Int), 0, ()) := by
  have : ∀ p ∈ allP, shapeB (toI p) = true := by decide +kernel
  have hs := this p (allP_iff.2 ⟨n, hn, hp⟩)
  unfold stdF
  rw [if_pos hs, toNat_toI, std_hk p (allP_iff.2 ⟨n, hn, hp⟩)]
theorem shape_P {n : Nat} {p : List Nat} (hn : n ≤ 8) (hp : p ∈ P n) : shapeB (toI p) = true := by
  have : ∀ p ∈ allP, shapeB (toI p) = true := by decide +kernel
  exact this p (allP_iff.2 ⟨n, hn, hp⟩)
theorem small_P {n : Nat} {p : List Nat} (hn : n ≤ 8) (hp : p ∈ P n) : Small8 p := by
  obtain ⟨p', _, e, h, _⟩ := shape_allP (shape_P hn hp)
  have := congrArg (List.map Int.toNat) e
  rw [toNat_toI, toNat_toI] at this
  rw [this]; exact h
/-- The number of fillings of a shape with a content, for shapes and contents as they come. -/
theorem kosF_P {n : Nat} {p q : List Nat} (hn : n ≤ 8) (hp : p ∈ P n) (hq : q.length ≤ 8) (hs : q.sum ≤ 8) : kosF (toI p) (toI q) = (((if n = q.sum then kR q p else 0 : Nat) : Int), 0, ()) := by
  unfold kosF
  rw [if_pos ⟨shape_P hn hp, toI_cont hq hs⟩, kos_kR (small_P hn hp) (by rw [sum_P hn hp]; exact hn) hq hs, sum_P hn hp]
  by_cases h : n = q.sum
  · rw [if_pos h, if_pos h, kR_perm (List.reverse_perm q) hn hp (by rw [List.sum_reverse]; exact h.symm)]
  · rw [if_neg h, if_neg h]; rfl
theorem mulN_pos : ∀ {q : List Nat}, (∀ x ∈ q, 0 < x) → 0 < mulN q
  | [], _ => by decide
  | a :: q, h => by rw [mulN]; exact Nat.mul_pos (h a (by simp)) (mulN_pos fun x hx => h x (by simp [hx]))
theorem mulN_app : ∀ {a b : List Nat}, mulN (a ++ b) = mulN a * mulN b
  | [], b => by simp [mulN]
  | x :: a, b => by rw [List.cons_append, mulN, mulN, mulN_app, Nat.mul_assoc]
def wordsN (q : List Nat) : Nat := fct q.sum / mulN (q.map fct)
theorem words_sum {q : List Nat} (hs : q.sum ≤ 8) : ((P q.sum).map fun p => kR q p * hkN p).sum = wordsN q := by
  have h := words_eq (m := q) hs rfl
  have e : sL (P q.sum) (fun p => (kR q p : Int) * (hkN p : Int)) = ((((P q.sum).map fun p => kR q p * hkN p).sum : Nat) : Int) := by
    rw [sum_cast, sL_map]
    exact sL_congr fun p _ => by push_cast; rfl
  rw [e] at h
  have h : ((P q.sum).map fun p => kR q p * hkN p).sum * mulN (q.map fct) = fct q.sum := by exact_mod_cast h
  have hpos : 0 < mulN (q.map fct) := mulN_pos fun x hx => by
    obtain ⟨y, hy, rfl⟩ := List.mem_map.1 hx
    exact (fct_bd (by have := mem_le_sum y hy; omega)).1
  unfold wordsN
  rw [← h, Nat.mul_div_cancel _ hpos]

theorem wr_nat {n : Nat} (h : n ≤ 40320) : wr .i64 (n : Int) = n := wr_id (by omega)
theorem whileO_at {S X : Type} {step : S → Option (Lp S X)} {s0 : S} (st : Nat → S) (n : Nat) (x : X) (h0 : st 0 = s0) (hgo : ∀ i, i < n → step (st i) = some (.go (st (i + 1)))) (hout : step (st n) = some (.out x)) : whileO step s0 = some x := by
  rw [← h0]; exact whileO_ind st n x hgo hout

theorem goal8 : con8.goal Try.prog (spOf [con23, con21, con20, con24, con37, con38, con39, con40]) g8_sh [] lm30 := by
  have e : (∀ (m : List Int), small m → g8 m = some (true, ())) = con8.goal Try.prog (spOf [con23, con21, con20, con24, con37, con38, con39, con40]) g8_sh [] lm30 := by kernel_rfl
  rw [← e]
  intro m hm
  unfold g8
  rw [gd_pos hm]
  cases hc : contB m with
  | false =>
    have q1 : (1 : Nat) ≤ 1000 ∧ (m.take 12).length ≤ 1000 := ⟨by omega, by simp; omega⟩
    have e2 : kosF [1] (m.take 12) = (0, 2, ()) := by unfold kosF; rw [cont_take, hc]; simp
    rw [e2]
    rw [gd_pos q1]
    simp [gd_true, ieq]
  | true =>
    have ht := cont_take_id hc
    obtain ⟨q, rfl, hq8, hs8⟩ := cont_toI hc
    have hlen : (toI q).length = q.length := by simp [toI]
    have hb : boxW (toI q) = (q.sum : Nat) := toI_box hq8 hs8
    rw [ht, hb, hlen]
    have hfn := fct_bd hs8
    simp only [Bool.not_true, cond_false]
    rw [gd_pos (by omega)]
    have hF : shapesF ((q.sum : Nat) : Int) = (P q.sum).map toI := by unfold shapesF; rw [Int.toNat_natCast]
    have hwle : wordsN q ≤ 40320 := Nat.le_trans (Nat.div_le_self _ _) hfn.2
    refine whileO_at (fun i => (((fct i : Nat) : Int), ((i : Nat) : Int), ())) q.sum _ rfl (fun i hi => ?_) ?_
    · have hf := fct_bd (n := i + 1) (by omega)
      have h1 : wr .i64 ((i : Int) + 1) = (i + 1 : Nat) := (wr_id (by omega)).trans (by omega)
      have h2 : wr .i64 ((fct i : Int) * ((i + 1 : Nat) : Int)) = (fct (i + 1) : Nat) := by
        have : ((fct (i + 1) : Nat) : Int) = (fct i : Int) * ((i + 1 : Nat) : Int) := by rw [fct]; push_cast; rw [Int.mul_comm]
        rw [← this]; exact wr_id (by omega)
      simp only [ilt_iff.2 (show (i : Int) < (q.sum : Nat) by omega), cond_true, h1, h2]
    · simp only [ilt_false.2 (show ((q.sum : Nat) : Int) ≤ (q.sum : Nat) by omega), cond_false]
      -- divided
      refine whileO_at (fun i => (((fct q.sum / mulN ((q.take i).map fct) : Nat) : Int), ((i : Nat) : Int), ())) q.length _ (by simp [mulN]) (fun i hi => ?_) ?_
      · have hg : (toI q).getD i 0 = (q[i] : Nat) := by rw [toI_get, List.getD_eq_getElem?_getD, List.getElem?_eq_getElem hi]; rfl
        have hqi : q[i] ≤ 8 := by have := mem_le_sum q[i] (List.getElem_mem hi); omega
        simp only [ilt_iff.2 (show (i : Int) < (q.length : Nat) by omega), cond_true]
        rw [gd_pos ⟨by omega, by omega⟩]
        refine whileO_at (fun k => (((fct q.sum / (mulN ((q.take i).map fct) * fct k) : Nat) : Int), ((k : Nat) : Int), ())) q[i] _ (by simp [fct]) (fun k hk => ?_) ?_
        · unfold g8_l0
          simp only [Int.toNat_natCast, hg]
          have h1 : wr .i64 ((k : Int) + 1) = (k + 1 : Nat) := (wr_id (by omega)).trans (by omega)
          simp only [ilt_iff.2 (show (k : Int) < (q[i] : Nat) by omega), cond_true, h1]
          have hle : fct q.sum / (mulN ((q.take i).map fct) * fct (k + 1)) ≤ 40320 := Nat.le_trans (Nat.div_le_self _ _) hfn.2
          have h2 : Int.tdiv ((fct q.sum / (mulN ((q.take i).map fct) * fct k) : Nat) : Int) ((k + 1 : Nat) : Int) = (fct q.sum / (mulN ((q.take i).map fct) * fct (k + 1)) : Nat) := by
            rw [← Int.ofNat_tdiv, Nat.div_div_eq_div_mul]
            congr 2
            rw [fct, Nat.mul_assoc, Nat.mul_comm (fct k)]
          rw [gd_pos (by omega), h2, wr_nat hle]
        · unfold g8_l0
          have h1 : wr .i64 ((i : Int) + 1) = (i + 1 : Nat) := (wr_id (by omega)).trans (by omega)
          simp only [Int.toNat_natCast, hg, ilt_false.2 (show ((q[i] : Nat) : Int) ≤ (q[i] : Nat) by omega), cond_false, h1]
          rw [List.take_succ_eq_append_getElem hi, List.map_append, mulN_app]
          simp [mulN]
      · have hw : fct q.sum / mulN ((q.take q.length).map fct) = wordsN q := by rw [List.take_length]; rfl
        simp only [ilt_false.2 (show ((q.length : Nat) : Int) ≤ (q.length : Nat) by omega), cond_false, hw, hF]
        rw [gd_pos ⟨by omega, by omega⟩]
        have hPl : ((P q.sum).map toI).length = (P q.sum).length := by simp
        have hPs : ∀ n ∈ List.range 9, (P n).length ≤ 22 := by decide +kernel
        have hPb := hPs q.sum (List.mem_range.2 (by omega))
        have htot := words_sum hs8
        rw [hPl]
        have hpart : ∀ i, (((P q.sum).take i).map fun p => kR q p * hkN p).sum ≤ wordsN q := fun i => by
          rw [← htot]
          conv => rhs; rw [← List.take_append_drop i (P q.sum), List.map_append, List.sum_append]
          omega
        refine whileO_at (fun i => ((((((P q.sum).take i).map fun p => kR q p * hkN p).sum : Nat) : Int), ((i : Nat) : Int), ())) (P q.sum).length _ rfl (fun i hi => ?_) ?_
        · have hmem := List.getElem_mem hi
          have hg : ((P q.sum).map toI).getD i [] = toI (P q.sum)[i] := by rw [List.getD_eq_getElem?_getD, List.getElem?_map, List.getElem?_eq_getElem hi]; rfl
          have hs := small_P hs8 hmem
          have hl8 : (toI (P q.sum)[i]).length ≤ 8 := by have := hs.len; simpa [toI] using this
          have hstep : ((((P q.sum).take (i + 1)).map fun p => kR q p * hkN p).sum) = (((P q.sum).take i).map fun p => kR q p * hkN p).sum + kR q (P q.sum)[i] * hkN (P q.sum)[i] := by
            rw [List.take_succ_eq_append_getElem hi, List.map_append, List.sum_append]; simp
          have hb1 := hpart (i + 1)
          rw [hstep] at hb1
          have h1 : wr .i64 ((i : Int) + 1) = (i + 1 : Nat) := (wr_id (by omega)).trans (by omega)
          simp only [ilt_iff.2 (show (i : Int) < ((P q.sum).length : Nat) by omega), cond_true, Int.toNat_natCast, hg, kosF_P hs8 hmem hq8 hs8, stdF_P hs8 hmem, if_pos, h1, hstep]
          have h2 : wr .i64 (((kR q (P q.sum)[i] : Nat) : Int) * ((hkN (P q.sum)[i] : Nat) : Int)) = ((kR q (P q.sum)[i] * hkN (P q.sum)[i] : Nat) : Int) := by
            rw [← Int.natCast_mul]; exact wr_id (by omega)
          rw [h2, wr_id (by omega)]
          simp [gd_true, ieq, hl8, hlen]
          rw [gd_pos (by omega), gd_pos (by omega), gd_pos ⟨by omega, by omega⟩, gd_pos (by omega), gd_pos (by omega)]
        · simp only [ilt_false.2 (show (((P q.sum).length : Nat) : Int) ≤ ((P q.sum).length : Nat) by omega), cond_false, List.take_length, htot]
          simp [gd_true, ieq]
set_option maxRecDepth 100000 in
theorem ok8law : con8.Ok Try.prog := Con.of_goal mixed (okC ok23 (okC ok21 (okC ok20 (okC ok24 (okC ok37 (okC ok38 (okC ok39 (okC ok40 okN)))))))) con8 goal8
end Go.Schur
