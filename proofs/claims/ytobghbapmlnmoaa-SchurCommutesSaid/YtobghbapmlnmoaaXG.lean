/- Standard fillings: contracts. -/
import Derived.Test.YtobghbapmlnmoaaXH
import Derived.Test.YtobghbapmlnmoaaAV
set_option linter.unusedVariables false
set_option linter.unusedSimpArgs false
namespace Go.Schur
open Go Go.Ab Go.Proofs
def stdF (l:List Int) : Int × Int × Unit := if shapeB l = true then ((kR (List.replicate (l.map Int.toNat).sum 1) (l.map Int.toNat):Nat), 0, ()) else (0, 2, ())
def ones (l:List Int) : List Int := List.replicate (min (max (boxW l) 0) 8).toNat 1
def conjF (l:List Int) : List Int := (List.range (l.headD 0).toNat).map fun c => ((l.filter fun x => decide (((c:Nat):Int) + 1 ≤ x)).length:Int)
noncomputable def con41 : Con := mkC 41 [.d LI] [LI] (fun (l:List Int) => [shapeB l = true]) (fun (l:List Int) => (conjF l, ()))
noncomputable def g41_l0 (x0:List Int) (d1 : Int × List Int × Unit) (d2 : Int × Int × List Int × Unit) : Option (Lp (Int × Int × List Int × Unit) (Lp (Int × List Int × Unit) (List Int × Unit))) := bif ilt d2.2.1 (↑(List.length x0):Int) then gd ((0:Int) ≤ d2.2.1 ∧ d2.2.1 < (↑(List.length x0):Int)) (bif ile d1.1 (List.getD x0 (Int.toNat d2.2.1) (0:Int)) then gd (List.length d2.2.2.1 = List.length d2.2.2.1) (some (Lp.go ((wr IntKind.i64 (d2.1 + (1:Int)), wr IntKind.i64 (d2.2.1 + (1:Int)), d2.2.2.1, ()) : Int × Int × List Int × Unit))) else gd (List.length d2.2.2.1 = List.length d2.2.2.1) (some (Lp.go ((d2.1, wr IntKind.i64 (d2.2.1 + (1:Int)), d2.2.2.1, ()) : Int × Int × List Int × Unit)))) else gd (List.length d2.2.2.1 ≤ List.length d2.2.2.1) (gd ((List.length d2.2.2.1 + (1:Nat)) * (8:Nat) ≤ (1099511627776:Nat)) (gd (List.length d2.2.2.1 + (1:Nat) = List.length (List.take (List.length d2.2.2.1) d2.2.2.1 ++ d2.1 :: ([]:List Int))) (some (Lp.out (Lp.go ((wr IntKind.i64 (d1.1 + (1:Int)), List.take (List.length d2.2.2.1) d2.2.2.1 ++ d2.1 :: ([]:List Int), ()) : Int × List Int × Unit))))))
noncomputable def g41 (x0:List Int) : Option (List Int × Unit) := gd ((0:Nat) = (0:Nat)) (whileO (fun (d1 : Int × List Int × Unit) => gd (ilt (0:Int) (↑(List.length x0):Int) = true → ilt (0:Int) (↑(List.length x0):Int) = true ∧ (0:Int) ≤ (0:Int) ∧ (0:Int) < (↑(List.length x0):Int)) (gd (ilt (0:Int) (↑(List.length x0):Int) = true → ilt (0:Int) (↑(List.length x0):Int) = true) (gd (ilt (0:Int) (↑(List.length x0):Int) = true → ilt (0:Int) (↑(List.length x0):Int) = true ∧ ilt (0:Int) (↑(List.length x0):Int) = true) (gd (ilt (0:Int) (↑(List.length x0):Int) = true → ilt (0:Int) (↑(List.length x0):Int) = true) (bif bif ilt (0:Int) (↑(List.length x0):Int) then ile d1.1 (List.getD x0 (0:Nat) (0:Int)) else false then gd (List.length d1.2.1 = List.length d1.2.1) (whileO (g41_l0 x0 d1) (((0:Int), (0:Int), d1.2.1, ()) : Int × Int × List Int × Unit)) else gd ((0:Nat) + List.length d1.2.1 ≤ List.length d1.2.1) (some (Lp.out ((List.take (List.length d1.2.1) (List.drop (0:Nat) d1.2.1), ()) : List Int × Unit)))))))) (((1:Int), ([]:List Int), ()) : Int × List Int × Unit))
noncomputable def g41_sh : List LSh := LSh.mk (((3, TV.slf (0) (1)) : Nat × TV) :: ((4, TV.v (Ty.int IntKind.i64)) : Nat × TV) :: ([] : List (Nat × TV))) (TB.arr (Ty.int IntKind.i64) true :: ([] : List TB)) :: LSh.mk (((3, TV.slf (0) (1)) : Nat × TV) :: ((5, TV.v (Ty.int IntKind.i64)) : Nat × TV) :: ((22, TV.v (Ty.int IntKind.i64)) : Nat × TV) :: ([] : List (Nat × TV))) (TB.arr (Ty.int IntKind.i64) true :: ([] : List TB)) :: ([] : List LSh)
def h41_l0 (x0:List Int) (d1 : Int × List Int × Unit) (d2 : Int × Int × List Int × Unit) : Option (Lp (Int × Int × List Int × Unit) (Lp (Int × List Int × Unit) (List Int × Unit))) := bif ilt d2.2.1 (↑(List.length x0):Int) then gdD ((0:Int) ≤ d2.2.1 ∧ d2.2.1 < (↑(List.length x0):Int)) (bif ile d1.1 (List.getD x0 (Int.toNat d2.2.1) (0:Int)) then gdD (List.length d2.2.2.1 = List.length d2.2.2.1) (some (Lp.go ((wr IntKind.i64 (d2.1 + (1:Int)), wr IntKind.i64 (d2.2.1 + (1:Int)), d2.2.2.1, ()) : Int × Int × List Int × Unit))) else gdD (List.length d2.2.2.1 = List.length d2.2.2.1) (some (Lp.go ((d2.1, wr IntKind.i64 (d2.2.1 + (1:Int)), d2.2.2.1, ()) : Int × Int × List Int × Unit)))) else gdD (List.length d2.2.2.1 ≤ List.length d2.2.2.1) (gdD ((List.length d2.2.2.1 + (1:Nat)) * (8:Nat) ≤ (1099511627776:Nat)) (gdD (List.length d2.2.2.1 + (1:Nat) = List.length (List.take (List.length d2.2.2.1) d2.2.2.1 ++ d2.1 :: ([]:List Int))) (some (Lp.out (Lp.go ((wr IntKind.i64 (d1.1 + (1:Int)), List.take (List.length d2.2.2.1) d2.2.2.1 ++ d2.1 :: ([]:List Int), ()) : Int × List Int × Unit))))))
theorem h41_l0_le (x0:List Int) (d1 : Int × List Int × Unit) (d2 : Int × Int × List Int × Unit) : LeO (h41_l0 x0 d1 d2) (g41_l0 x0 d1 d2) := by
  unfold h41_l0 g41_l0
  repeat' first | exact leO_refl | refine leO_gd ?_ | refine leO_cond ?_ ?_ | refine leO_map ?_ | refine leO_eqO ?_ ?_ | (refine leO_while fun s => ?_; try dsimp only)
def h41 (x0:List Int) : Option (List Int × Unit) := gdD ((0:Nat) = (0:Nat)) (whileF 30 (fun (d1 : Int × List Int × Unit) => gdD (ilt (0:Int) (↑(List.length x0):Int) = true → ilt (0:Int) (↑(List.length x0):Int) = true ∧ (0:Int) ≤ (0:Int) ∧ (0:Int) < (↑(List.length x0):Int)) (gdD (ilt (0:Int) (↑(List.length x0):Int) = true → ilt (0:Int) (↑(List.length x0):Int) = true) (gdD (ilt (0:Int) (↑(List.length x0):Int) = true → ilt (0:Int) (↑(List.length x0):Int) = true ∧ ilt (0:Int) (↑(List.length x0):Int) = true) (gdD (ilt (0:Int) (↑(List.length x0):Int) = true → ilt (0:Int) (↑(List.length x0):Int) = true) (bif bif ilt (0:Int) (↑(List.length x0):Int) then ile d1.1 (List.getD x0 (0:Nat) (0:Int)) else false then gdD (List.length d1.2.1 = List.length d1.2.1) (whileF 30 (h41_l0 x0 d1) (((0:Int), (0:Int), d1.2.1, ()) : Int × Int × List Int × Unit)) else gdD ((0:Nat) + List.length d1.2.1 ≤ List.length d1.2.1) (some (Lp.out ((List.take (List.length d1.2.1) (List.drop (0:Nat) d1.2.1), ()) : List Int × Unit)))))))) (((1:Int), ([]:List Int), ()) : Int × List Int × Unit))
theorem h41_le (x0:List Int) : LeO (h41 x0) (g41 x0) := by
  unfold h41 g41
  repeat' first | exact leO_refl | exact h41_l0_le .. | refine leO_gd ?_ | refine leO_cond ?_ ?_ | refine leO_map ?_ | refine leO_eqO ?_ ?_ | (refine leO_while fun s => ?_; try dsimp only)
end Go.Schur
set_option linter.unusedVariables false
set_option linter.unusedSimpArgs false
namespace Go.Schur
open Go Go.Ab Go.Proofs
def parts : Nat → Nat → Nat → List (List Nat)
  | 0, n, most => if n = 0 then [[]] else []
  | f + 1, n, most => if n = 0 then [[]] else (upTo 1 (min n most)).flatMap fun x => (parts f (n - x) x).map (x :: ·)
def allP : List (List Nat) := (List.range 9).flatMap fun n => parts n n n
theorem mem_parts : ∀ {l : List Nat} {f n most : Nat}, (∀ x ∈ l, 1 ≤ x) → Dec l → l.headD 0 ≤ most → l.sum = n → n ≤ f → l ∈ parts f n most
  | [], f, n, most, _, _, _, hs, hf => by
    simp at hs; subst hs
    cases f <;> simp [parts]
  | a :: l, f, n, most, h1, hd, hm, hs, hf => by
    have ha := h1 a (by simp)
    simp only [List.sum_cons] at hs
    cases f with
    | zero => omega
    | succ f =>
      rw [parts, if_neg (by omega), List.mem_flatMap]
      simp only [List.headD_cons] at hm
      refine ⟨a, mem_upTo.2 ⟨ha, by omega⟩, List.mem_map.2 ⟨l, ?_, rfl⟩⟩
      refine mem_parts (fun x hx => h1 x (by simp [hx])) (fun i => by have := hd (i + 1); simpa using this) ?_ (by omega) (by omega)
      have := hd 0
      cases l with
      | nil => simp
      | cons b l => simpa using this
theorem toI_toNat {l : List Int} (h : ∀ x ∈ l, 0 ≤ x) : toI (l.map Int.toNat) = l := by
  unfold toI
  rw [List.map_map]
  refine Eq.trans (List.map_congr_left fun x hx => ?_) (List.map_id l)
  have := h x hx
  simp; omega
theorem shape_allP {l : List Int} (h : shapeB l = true) : ∃ p ∈ allP, l = toI p ∧ Small8 p ∧ (∀ x ∈ p, 1 ≤ x) ∧ p.sum ≤ 8 := by
  have h8 := shape_mem h
  have hl := shapeB_iff.1 h
  have e := toI_toNat (l := l) (fun x hx => by have := h8 x hx; omega)
  have hrow := shape_row h
  have hget : ∀ i, ((l.map Int.toNat).getD i 0:Int) = l.getD i 0 := fun i => by rw [← toI_get, e]
  have hsum : ((l.map Int.toNat).sum:Int) = l.sum := sumN_eq (fun x hx => by have := h8 x hx; omega)
  have hd : Dec (l.map Int.toNat) := fun i => by
    have := (hrow i).2.2
    rw [rowF_nat, rowF_nat, ← hget, ← hget] at this
    omega
  have hp : ∀ x ∈ l.map Int.toNat, 1 ≤ x := fun x hx => by
    obtain ⟨y, hy, rfl⟩ := List.mem_map.1 hx
    have := h8 y hy; omega
  have hs8 : (l.map Int.toNat).sum ≤ 8 := by have := hl.2.2; omega
  refine ⟨l.map Int.toNat, ?_, e.symm, ⟨hd, by simpa using hl.1, fun i => ?_⟩, hp, hs8⟩
  · refine List.mem_flatMap.2 ⟨(l.map Int.toNat).sum, List.mem_range.2 (by omega), mem_parts hp hd ?_ rfl (Nat.le_refl _)⟩
    cases hl : l.map Int.toNat with
    | nil => simp
    | cons a t => simp
  · have := (hrow i).2.1
    rw [rowF_nat, ← hget] at this
    omega
theorem all_shape {P : List Int → Prop} (h : ∀ p ∈ allP, P (toI p)) {l : List Int} (hl : shapeB l = true) : P l := by
  obtain ⟨p, hp, rfl, _⟩ := shape_allP hl
  exact h p hp
theorem mem_le_sum {l : List Nat} : ∀ n ∈ l, n ≤ l.sum := by
  induction l with
  | nil => intro n hn; cases hn
  | cons a l ih =>
    intro n hn
    rcases List.mem_cons.1 hn with rfl | hn
    · simp
    · have := ih n hn; simp only [List.sum_cons]; omega
theorem toI_sum {p : List Nat} : (toI p).sum = (p.sum:Nat) := by
  induction p with
  | nil => rfl
  | cons a p ih => simp only [toI, List.map_cons, List.sum_cons] at ih ⊢; omega
theorem toI_box {p : List Nat} (hl : p.length ≤ 8) (h : p.sum ≤ 8) : boxW (toI p) = (p.sum:Nat) := by
  rw [boxW_sum (fun x hx => by obtain ⟨n, hn, rfl⟩ := List.mem_map.1 hx; have := mem_le_sum n hn; omega) (by simp [toI]; omega), toI_sum]
theorem goal41 : con41.goal Try.prog (spOf []) g41_sh [] lm30 := by
  have e : (∀ (l:List Int), shapeB l = true → g41 l = some (conjF l, ())) = con41.goal Try.prog (spOf []) g41_sh [] lm30 := by kernel_rfl
  rw [← e]
  intro l hl
  refine h41_le _ _ (all_shape (P := fun l => h41 l = some (conjF l, ())) ?_ hl)
  decide +kernel
set_option maxRecDepth 100000 in
theorem ok41 : con41.Ok Try.prog := Con.of_goal mixed okN con41 goal41
end Go.Schur
set_option linter.unusedVariables false
set_option linter.unusedSimpArgs false
namespace Go.Schur
open Go Go.Ab Go.Proofs
instance {l : List Int} : Decidable (small l) := by unfold small; infer_instance
def h9_l0 (x0:List Int) (d2 d3 : Int × Int × Unit) : Option (Lp (Int × Int × Unit) (Lp (Int × Int × Unit) (Lp (Int × Int × Unit) (Bool × Unit)))) := bif ilt d3.2.1 (List.getD x0 (Int.toNat d2.2.1) (0:Int)) then gdD ((0:Int) ≤ d3.2.1 ∧ d3.2.1 < (↑(List.length (conjF x0)):Int)) (some (Lp.go ((wr IntKind.i64 (d3.1 * wr IntKind.i64 (wr IntKind.i64 (wr IntKind.i64 (wr IntKind.i64 (List.getD x0 (Int.toNat d2.2.1) (0:Int) - d3.2.1) + List.getD (conjF x0) (Int.toNat d3.2.1) (0:Int)) - d2.2.1) - (1:Int))), wr IntKind.i64 (d3.2.1 + (1:Int)), ()) : Int × Int × Unit))) else some (Lp.out (Lp.go ((d3.1, wr IntKind.i64 (d2.2.1 + (1:Int)), ()) : Int × Int × Unit)))
def h9 (x0:List Int) : Option (Bool × Unit) := gdD (List.length (List.take (12:Nat) x0) ≤ (1000:Nat)) (gdD ((!!ieq (stdF (List.take (12:Nat) x0)).2.1 (0:Int)) = true → (!!ieq (stdF (List.take (12:Nat) x0)).2.1 (0:Int)) = true ∧ small x0) (gdD ((!!ieq (stdF (List.take (12:Nat) x0)).2.1 (0:Int)) = true → (!!ieq (stdF (List.take (12:Nat) x0)).2.1 (0:Int)) = true) (gdD ((!ieq (stdF (List.take (12:Nat) x0)).2.1 (0:Int)) = false → (!!ieq (stdF (List.take (12:Nat) x0)).2.1 (0:Int)) = true) (bif bif !ieq (stdF (List.take (12:Nat) x0)).2.1 (0:Int) then true else !shapeB x0 then gdD (ieq (stdF (List.take (12:Nat) x0)).2.1 (2:Int) = true → ieq (stdF (List.take (12:Nat) x0)).2.1 (2:Int) = true) (some ((bif ieq (stdF (List.take (12:Nat) x0)).2.1 (2:Int) then true else false, ()) : Bool × Unit)) else gdD (shapeB x0 = true) (gdD (List.length (conjF x0) ≤ (100000:Nat)) (gdD (List.length (conjF x0) ≤ (1000:Nat)) (gdD (List.length x0 ≤ (1000:Nat)) (whileF 30 (fun (d1 : Int × Int × Unit) => bif ilt d1.2.1 (boxW x0) then some (Lp.go ((wr IntKind.i64 (d1.1 * wr IntKind.i64 (d1.2.1 + (1:Int))), wr IntKind.i64 (d1.2.1 + (1:Int)), ()) : Int × Int × Unit)) else whileF 30 (fun (d2 : Int × Int × Unit) => bif ilt d2.2.1 (↑(List.length x0):Int) then gdD ((0:Int) ≤ d2.2.1 ∧ d2.2.1 < (↑(List.length x0):Int)) (whileF 30 (h9_l0 x0 d2) ((d2.1, (0:Int), ()) : Int × Int × Unit)) else gdD (ieq (stdF (conjF x0)).2.1 (0:Int) = true → ieq (stdF (conjF x0)).2.1 (0:Int) = true ∧ ieq (stdF (conjF x0)).2.1 (0:Int) = true) (gdD (ieq (stdF (conjF x0)).2.1 (0:Int) = true → ieq (stdF (conjF x0)).2.1 (0:Int) = true) (gdD ((bif ieq (stdF (conjF x0)).2.1 (0:Int) then ieq (stdF (List.take (12:Nat) x0)).1 (stdF (conjF x0)).1 else false) = true → (bif ieq (stdF (conjF x0)).2.1 (0:Int) then ieq (stdF (List.take (12:Nat) x0)).1 (stdF (conjF x0)).1 else false) = true ∧ (bif ieq (stdF (conjF x0)).2.1 (0:Int) then ieq (stdF (List.take (12:Nat) x0)).1 (stdF (conjF x0)).1 else false) = true) (gdD ((bif ieq (stdF (conjF x0)).2.1 (0:Int) then ieq (stdF (List.take (12:Nat) x0)).1 (stdF (conjF x0)).1 else false) = true → (bif ieq (stdF (conjF x0)).2.1 (0:Int) then ieq (stdF (List.take (12:Nat) x0)).1 (stdF (conjF x0)).1 else false) = true ∧ (bif ieq (stdF (conjF x0)).2.1 (0:Int) then ieq (stdF (List.take (12:Nat) x0)).1 (stdF (conjF x0)).1 else false) = true) (gdD ((bif ieq (stdF (conjF x0)).2.1 (0:Int) then ieq (stdF (List.take (12:Nat) x0)).1 (stdF (conjF x0)).1 else false) = true → (bif ieq (stdF (conjF x0)).2.1 (0:Int) then ieq (stdF (List.take (12:Nat) x0)).1 (stdF (conjF x0)).1 else false) = true) (gdD ((bif bif ieq (stdF (conjF x0)).2.1 (0:Int) then ieq (stdF (List.take (12:Nat) x0)).1 (stdF (conjF x0)).1 else false then ieq (wr IntKind.i64 ((stdF (List.take (12:Nat) x0)).1 * d2.1)) d1.1 else false) = true → (bif bif ieq (stdF (conjF x0)).2.1 (0:Int) then ieq (stdF (List.take (12:Nat) x0)).1 (stdF (conjF x0)).1 else false then ieq (wr IntKind.i64 ((stdF (List.take (12:Nat) x0)).1 * d2.1)) d1.1 else false) = true) (some (Lp.out (Lp.out ((bif bif bif ieq (stdF (conjF x0)).2.1 (0:Int) then ieq (stdF (List.take (12:Nat) x0)).1 (stdF (conjF x0)).1 else false then ieq (wr IntKind.i64 ((stdF (List.take (12:Nat) x0)).1 * d2.1)) d1.1 else false then true else false, ()) : Bool × Unit)))))))))) (((1:Int), (0:Int), ()) : Int × Int × Unit)) (((1:Int), (0:Int), ()) : Int × Int × Unit)))))))))
end Go.Schur
set_option linter.unusedVariables false
set_option linter.unusedSimpArgs false
namespace Go.Schur
open Go Go.Ab Go.Proofs
end Go.Schur
