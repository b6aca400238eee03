/- Designs and words: contracts. -/
import Derived.Test.YtibpopddoggnkaaXW
import Derived.Test.YtibpopddoggnkaaSS
import Derived.Test.YtibpopddoggnkaaXZ
set_option linter.unusedVariables false
set_option linter.unusedSimpArgs false
namespace Go.Signs
open Go Go.Ab Go.Proofs

noncomputable def con56 : Con := mkC 56 [.d I64] [I64] (fun (x : Int) => [is16 x]) (fun (x : Int) => (pop x, ()))
noncomputable def g56 (x0 : Int) : Option (Int × Unit) := whileO (fun (d1 : Int × Int × Unit) => bif ilt (0 : Int) d1.1 then some (Lp.go ((iand IntKind.i64 d1.1 (wr IntKind.i64 (d1.1 - (1 : Int))), wr IntKind.i64 (d1.2.1 + (1 : Int)), ()) : Int × Int × Unit)) else some (Lp.out ((d1.2.1, ()) : Int × Unit))) ((x0, (0 : Int), ()) : Int × Int × Unit)
noncomputable def g56_sh : List LSh := LSh.mk (((0, TV.v (Ty.int IntKind.i64)) : Nat × TV) :: ((3, TV.v (Ty.int IntKind.i64)) : Nat × TV) :: ([] : List (Nat × TV))) ([] : List TB) :: ([] : List LSh)
end Go.Signs

set_option linter.unusedVariables false
set_option linter.unusedSimpArgs false
namespace Go.Signs
open Go Go.Ab Go.Proofs

/-! ### Words -/
end Go.Signs

set_option linter.unusedVariables false
set_option linter.unusedSimpArgs false
namespace Go.Signs
open Go Go.Ab Go.Proofs

theorem pc_step : ∀ (k x : Nat), 0 < x → x < 2 ^ k → pc k (x &&& (x - 1)) + 1 = pc k x
  | 0, x, h0, h => by simp at h; omega
  | k + 1, x, h0, h => by
    have e2 : (x &&& (x - 1)) / 2 = (x / 2) &&& ((x - 1) / 2) := Nat.and_div_two
    have e1 : (x &&& (x - 1)) % 2 = (x % 2) &&& ((x - 1) % 2) := by
      have := Nat.and_mod_two_pow (a := x) (b := x - 1) (n := 1)
      simpa using this
    simp only [pc]
    rw [e1, e2]
    rcases Nat.mod_two_eq_zero_or_one x with hx | hx
    · have h1 : (x - 1) / 2 = x / 2 - 1 := by omega
      have h2 : (x - 1) % 2 = 1 := by omega
      have := pc_step k (x / 2) (by omega) (by rw [Nat.pow_succ] at h; omega)
      rw [hx, h1, h2, ← this]
      simp
    · have h1 : (x - 1) / 2 = x / 2 := by omega
      have h2 : (x - 1) % 2 = 0 := by omega
      rw [hx, h1, h2, Nat.and_self]
      simp
      omega
theorem pop_step2 {x : Nat} (h0 : 0 < x) (h : x < 65536) : (x &&& (x - 1)) < x ∧ popN (x &&& (x - 1)) + 1 = popN x := by
  refine ⟨Nat.lt_of_le_of_lt Nat.and_le_right (by omega), ?_⟩
  unfold popN
  rw [pc_eq, pc_eq]
  exact pc_step 16 x h0 h
theorem pop_zero : popN 0 = 0 := by decide
theorem goal56 : con56.goal Try.prog (spOf []) g56_sh [] lm30 := by
  have e : (∀ (x : Int), is16 x → g56 x = some (pop x, ())) = con56.goal Try.prog (spOf []) g56_sh [] lm30 := by kernel_rfl
  rw [← e]
  rintro x ⟨h0, h1⟩
  obtain ⟨y, rfl⟩ := Int.eq_ofNat_of_zero_le h0
  unfold g56
  have key : ∀ (m z c : Nat), z ≤ m → z < 65536 → c ≤ 100 → popN z + c ≤ 100 → whileO (fun (d1 : Int × Int × Unit) => bif ilt (0 : Int) d1.1 then some (Lp.go ((iand .i64 d1.1 (wr .i64 (d1.1 - (1 : Int))), wr .i64 (d1.2.1 + (1 : Int)), ()) : Int × Int × Unit)) else some (Lp.out ((d1.2.1, ()) : Int × Unit))) (((z : Int), (c : Int), ()) : Int × Int × Unit) = some (((popN z + c : Nat) : Int), ()) := by
    intro m
    induction m with
    | zero =>
      intro z c hz _ _ _
      have : z = 0 := by omega
      subst this
      refine whileO_out ?_
      simp [ilt, pop_zero]
    | succ m ih =>
      intro z c hz hz2 hc hp
      rcases Nat.eq_zero_or_pos z with rfl | hpos
      · refine whileO_out ?_
        simp [ilt, pop_zero]
      · obtain ⟨s1, s2⟩ := pop_step2 hpos hz2
        have ha : iand .i64 (z : Int) (wr .i64 ((z : Int) - 1)) = ((z &&& (z - 1) : Nat) : Int) := by
          rw [wr_id (by omega), show (z : Int) - 1 = ((z - 1 : Nat) : Int) by omega, iand_nat (by omega) (by omega)]
        refine (whileO_go (s' := (((z &&& (z - 1) : Nat) : Int), ((c + 1 : Nat) : Int), ())) ?_).trans ?_
        · dsimp only
          rw [cond_t (ilt_iff.2 (by omega)), ha, cast1 (by omega)]
        · rw [ih _ _ (by omega) (by omega) (by omega) (by omega), show popN (z &&& (z - 1)) + (c + 1) = popN z + c by omega]
  have hp : popN y ≤ 16 := by
    unfold popN
    have := List.countP_le_length (p := fun j => y.testBit j) (l := List.range 16)
    simpa using this
  have := key y y 0 (Nat.le_refl _) (by omega) (by omega) (by omega)
  rw [Nat.add_zero] at this
  exact this
set_option maxRecDepth 100000 in
theorem ok56 : con56.Ok Try.prog := Con.of_goal mixed okN con56 goal56

/-! ### Words in order -/
end Go.Signs

set_option linter.unusedVariables false
set_option linter.unusedSimpArgs false
namespace Go.Signs
open Go Go.Ab Go.Proofs

section
variable {l : List Int}
/-! ### Words -/
end
end Go.Signs

set_option linter.unusedVariables false
set_option linter.unusedSimpArgs false
namespace Go.Signs
open Go Go.Ab Go.Proofs

section
variable {l : List Int}
end
end Go.Signs

set_option linter.unusedVariables false
set_option linter.unusedSimpArgs false
namespace Go.Signs
open Go Go.Ab Go.Proofs

def idx4 (x : A4D) : List A4D → Int → Int
  | [], _ => -1
  | y :: l, i => if decide (y = x) = true then i else idx4 x l (i + 1)
noncomputable def con87 : Con := mkC 87 [.d (.slice A4), .d A4] [I64] (fun (l : List A4D) (x : A4D) => [l.length ≤ 1000000000]) (fun (l : List A4D) (x : A4D) => (idx4 x l 0, ()))
noncomputable def g87 (x0 : List (Int × Int × Int × Int × Unit)) (x1 : Int × Int × Int × Int × Unit) : Option (Int × Unit) := whileO (fun (d2 : Int × List Int × Unit) => bif ilt d2.1 (↑(List.length x0) : Int) then gd ((4 : Nat) ≤ List.length d2.2.1) (gd ((0 : Int) ≤ d2.1 ∧ d2.1 < (↑(List.length x0) : Int)) (bif deq (Ty.prod (Ty.int IntKind.i64) (Ty.prod (Ty.int IntKind.i64) (Ty.prod (Ty.int IntKind.i64) (Ty.prod (Ty.int IntKind.i64) Ty.unit)))) (((List.getD d2.2.1 (0 : Nat) (0 : Int), List.getD d2.2.1 (1 : Nat) (0 : Int), List.getD d2.2.1 (2 : Nat) (0 : Int), List.getD d2.2.1 (3 : Nat) (0 : Int), ()) : Int × Int × Int × Int × Unit) : Int × Int × Int × Int × Unit) (List.getD x0 (Int.toNat d2.1) (((0 : Int), (0 : Int), (0 : Int), (0 : Int), ()) : Int × Int × Int × Int × Unit) : Int × Int × Int × Int × Unit) then some (Lp.out ((d2.1, ()) : Int × Unit)) else some (Lp.go ((wr IntKind.i64 (d2.1 + (1 : Int)), d2.2.1, ()) : Int × List Int × Unit)))) else some (Lp.out (((-1 : Int), ()) : Int × Unit))) (((0 : Int), x1.1 :: x1.2.1 :: x1.2.2.1 :: x1.2.2.2.1 :: ([] : List Int), ()) : Int × List Int × Unit)
noncomputable def g87_sh : List LSh := LSh.mk (((3, TV.ref (0) (1 : Nat) (0 : Nat) (0 : Nat)) : Nat × TV) :: ((8, TV.v (Ty.int IntKind.i64)) : Nat × TV) :: ([] : List (Nat × TV))) (TB.arr (Ty.int IntKind.i64) false :: ([] : List TB)) :: ([] : List LSh)
def has4 (x : A4D) (l : List A4D) : Bool := ile 0 (idx4 x l 0)
noncomputable def con58 : Con := mkC 58 [.d (.slice A4), .d A4] [.bool] (fun (l : List A4D) (x : A4D) => [l.length ≤ 1000000000]) (fun (l : List A4D) (x : A4D) => (has4 x l, ()))
noncomputable def g58 (x0 : List (Int × Int × Int × Int × Unit)) (x1 : Int × Int × Int × Int × Unit) : Option (Bool × Unit) := gd ((4 : Nat) ≤ (4 : Nat)) (gd (List.length x0 ≤ (1000000000 : Nat)) (some ((ile (0 : Int) (idx4 ((x1.1, x1.2.1, x1.2.2.1, x1.2.2.2.1, ()) : Int × Int × Int × Int × Unit) x0 (0 : Int)), ()) : Bool × Unit)))
noncomputable def g58_sh : List LSh := ([] : List LSh)
noncomputable def con15 : Con := mkC 15 [.d I64, .d A4] [.bool] (fun (m : Int) (s : A4D) => []) (fun (m : Int) (s : A4D) => (true, ()))
noncomputable def g15 (x0 : Int) (x1 : Int × Int × Int × Int × Unit) : Option (Bool × Unit) := gd ((4 : Nat) ≤ (4 : Nat)) (bif !ieq (goodX ((x0, ((x1.1, x1.2.1, x1.2.2.1, x1.2.2.2.1, ()) : Int × Int × Int × Int × Unit), ()) : Int × (Int × Int × Int × Int × Unit) × Unit)).2.1 (0 : Int) then gd (ieq (goodX ((x0, ((x1.1, x1.2.1, x1.2.2.1, x1.2.2.2.1, ()) : Int × Int × Int × Int × Unit), ()) : Int × (Int × Int × Int × Int × Unit) × Unit)).2.1 (2 : Int) = true → ieq (goodX ((x0, ((x1.1, x1.2.1, x1.2.2.1, x1.2.2.2.1, ()) : Int × Int × Int × Int × Unit), ()) : Int × (Int × Int × Int × Int × Unit) × Unit)).2.1 (2 : Int) = true) (some ((bif ieq (goodX ((x0, ((x1.1, x1.2.1, x1.2.2.1, x1.2.2.2.1, ()) : Int × Int × Int × Int × Unit), ()) : Int × (Int × Int × Int × Int × Unit) × Unit)).2.1 (2 : Int) then true else false, ()) : Bool × Unit)) else gd ((4 : Nat) ≤ (4 : Nat)) (bif ieq (arrX ((x0, ((x1.1, x1.2.1, x1.2.2.1, x1.2.2.2.1, ()) : Int × Int × Int × Int × Unit), ()) : Int × (Int × Int × Int × Int × Unit) × Unit)).2.1 (0 : Int) then gd (small (arrX ((x0, ((x1.1, x1.2.1, x1.2.2.1, x1.2.2.2.1, ()) : Int × Int × Int × Int × Unit), ()) : Int × (Int × Int × Int × Int × Unit) × Unit)).1) (gd ((!!ieq (balX (arrX ((x0, ((x1.1, x1.2.1, x1.2.2.1, x1.2.2.2.1, ()) : Int × Int × Int × Int × Unit), ()) : Int × (Int × Int × Int × Int × Unit) × Unit)).1).2.1 (0 : Int)) = true → (!!ieq (balX (arrX ((x0, ((x1.1, x1.2.1, x1.2.2.1, x1.2.2.2.1, ()) : Int × Int × Int × Int × Unit), ()) : Int × (Int × Int × Int × Int × Unit) × Unit)).1).2.1 (0 : Int)) = true ∧ (!!ieq (balX (arrX ((x0, ((x1.1, x1.2.1, x1.2.2.1, x1.2.2.2.1, ()) : Int × Int × Int × Int × Unit), ()) : Int × (Int × Int × Int × Int × Unit) × Unit)).1).2.1 (0 : Int)) = true) (gd ((!ieq (balX (arrX ((x0, ((x1.1, x1.2.1, x1.2.2.1, x1.2.2.2.1, ()) : Int × Int × Int × Int × Unit), ()) : Int × (Int × Int × Int × Int × Unit) × Unit)).1).2.1 (0 : Int)) = false → (!!ieq (balX (arrX ((x0, ((x1.1, x1.2.1, x1.2.2.1, x1.2.2.2.1, ()) : Int × Int × Int × Int × Unit), ()) : Int × (Int × Int × Int × Int × Unit) × Unit)).1).2.1 (0 : Int)) = true) (bif bif !ieq (balX (arrX ((x0, ((x1.1, x1.2.1, x1.2.2.1, x1.2.2.2.1, ()) : Int × Int × Int × Int × Unit), ()) : Int × (Int × Int × Int × Int × Unit) × Unit)).1).2.1 (0 : Int) then true else !beqB (balX (arrX ((x0, ((x1.1, x1.2.1, x1.2.2.1, x1.2.2.2.1, ()) : Int × Int × Int × Int × Unit), ()) : Int × (Int × Int × Int × Int × Unit) × Unit)).1).1 (goodX ((x0, ((x1.1, x1.2.1, x1.2.2.1, x1.2.2.2.1, ()) : Int × Int × Int × Int × Unit), ()) : Int × (Int × Int × Int × Int × Unit) × Unit)).1 then some ((false, ()) : Bool × Unit) else bif !(goodX ((x0, ((x1.1, x1.2.1, x1.2.2.1, x1.2.2.2.1, ()) : Int × Int × Int × Int × Unit), ()) : Int × (Int × Int × Int × Int × Unit) × Unit)).1 then some ((true, ()) : Bool × Unit) else gd ((4 : Nat) ≤ (4 : Nat)) (whileO (fun (d2 : Int × Int × List Int × Unit) => bif ilt d2.2.1 (4 : Int) then gd ((0 : Int) ≤ d2.2.1 ∧ d2.2.1 < (4 : Int)) (gd (is16 (@id Int (arrGet (4 : Nat) (Ty.int IntKind.i64) (((x1.1, x1.2.1, x1.2.2.1, x1.2.2.2.1, ()) : Int × Int × Int × Int × Unit) : Int × Int × Int × Int × Unit) (Int.toNat d2.2.1)))) (gd ((0 : Int) ≤ d2.2.1 ∧ d2.2.1 < (4 : Int)) (gd ((0 : Nat) + Int.toNat d2.2.1 * (1 : Nat) < List.length d2.2.2.1) (some (Lp.go ((wr IntKind.i64 (d2.1 + wr IntKind.i64 (wr IntKind.i64 (x0 - wr IntKind.i64 ((2 : Int) * pop (@id Int (arrGet (4 : Nat) (Ty.int IntKind.i64) (((x1.1, x1.2.1, x1.2.2.1, x1.2.2.2.1, ()) : Int × Int × Int × Int × Unit) : Int × Int × Int × Int × Unit) (Int.toNat d2.2.1))))) * wr IntKind.i64 (x0 - wr IntKind.i64 ((2 : Int) * pop (@id Int (arrGet (4 : Nat) (Ty.int IntKind.i64) (((x1.1, x1.2.1, x1.2.2.1, x1.2.2.2.1, ()) : Int × Int × Int × Int × Unit) : Int × Int × Int × Int × Unit) (Int.toNat d2.2.1))))))), wr IntKind.i64 (d2.2.1 + (1 : Int)), List.set d2.2.2.1 ((0 : Nat) + Int.toNat d2.2.1 * (1 : Nat)) (imax (wr IntKind.i64 (x0 - wr IntKind.i64 ((2 : Int) * pop (@id Int (arrGet (4 : Nat) (Ty.int IntKind.i64) (((x1.1, x1.2.1, x1.2.2.1, x1.2.2.2.1, ()) : Int × Int × Int × Int × Unit) : Int × Int × Int × Int × Unit) (Int.toNat d2.2.1)))))) (wr IntKind.i64 ((0 : Int) - wr IntKind.i64 (x0 - wr IntKind.i64 ((2 : Int) * pop (@id Int (arrGet (4 : Nat) (Ty.int IntKind.i64) (((x1.1, x1.2.1, x1.2.2.1, x1.2.2.2.1, ()) : Int × Int × Int × Int × Unit) : Int × Int × Int × Int × Unit) (Int.toNat d2.2.1)))))))), ()) : Int × Int × List Int × Unit)))))) else gd ((4 : Nat) = List.length d2.2.2.1) (gd ((4 : Nat) = List.length d2.2.2.1) (gd (List.length d2.2.2.1 < (4611686018427387904 : Nat)) (gd (ieq (fourF x0).2.1 (0 : Int) = true → ieq (fourF x0).2.1 (0 : Int) = true) (gd (ieq (fourF x0).2.1 (0 : Int) = true → ieq (fourF x0).2.1 (0 : Int) = true ∧ ieq (fourF x0).2.1 (0 : Int) = true) (gd (ieq (fourF x0).2.1 (0 : Int) = true → ieq (fourF x0).2.1 (0 : Int) = true) (gd ((bif ieq (fourF x0).2.1 (0 : Int) then ieq d2.1 (wr IntKind.i64 ((4 : Int) * x0)) else false) = true → (4 : Nat) ≤ List.length (sortL d2.2.2.1)) (gd ((bif ieq (fourF x0).2.1 (0 : Int) then ieq d2.1 (wr IntKind.i64 ((4 : Int) * x0)) else false) = true → (bif ieq (fourF x0).2.1 (0 : Int) then ieq d2.1 (wr IntKind.i64 ((4 : Int) * x0)) else false) = true ∧ (bif ieq (fourF x0).2.1 (0 : Int) then ieq d2.1 (wr IntKind.i64 ((4 : Int) * x0)) else false) = true ∧ List.length (fourF x0).1 ≤ (1000000000 : Nat)) (gd ((bif ieq (fourF x0).2.1 (0 : Int) then ieq d2.1 (wr IntKind.i64 ((4 : Int) * x0)) else false) = true → (bif ieq (fourF x0).2.1 (0 : Int) then ieq d2.1 (wr IntKind.i64 ((4 : Int) * x0)) else false) = true) (gd ((bif bif ieq (fourF x0).2.1 (0 : Int) then ieq d2.1 (wr IntKind.i64 ((4 : Int) * x0)) else false then has4 ((List.getD (sortL d2.2.2.1) (0 : Nat) (0 : Int), List.getD (sortL d2.2.2.1) (1 : Nat) (0 : Int), List.getD (sortL d2.2.2.1) (2 : Nat) (0 : Int), List.getD (sortL d2.2.2.1) (3 : Nat) (0 : Int), ()) : Int × Int × Int × Int × Unit) (fourF x0).1 else false) = true → (bif bif ieq (fourF x0).2.1 (0 : Int) then ieq d2.1 (wr IntKind.i64 ((4 : Int) * x0)) else false then has4 ((List.getD (sortL d2.2.2.1) (0 : Nat) (0 : Int), List.getD (sortL d2.2.2.1) (1 : Nat) (0 : Int), List.getD (sortL d2.2.2.1) (2 : Nat) (0 : Int), List.getD (sortL d2.2.2.1) (3 : Nat) (0 : Int), ()) : Int × Int × Int × Int × Unit) (fourF x0).1 else false) = true) (some (Lp.out ((bif bif bif ieq (fourF x0).2.1 (0 : Int) then ieq d2.1 (wr IntKind.i64 ((4 : Int) * x0)) else false then has4 ((List.getD (sortL d2.2.2.1) (0 : Nat) (0 : Int), List.getD (sortL d2.2.2.1) (1 : Nat) (0 : Int), List.getD (sortL d2.2.2.1) (2 : Nat) (0 : Int), List.getD (sortL d2.2.2.1) (3 : Nat) (0 : Int), ()) : Int × Int × Int × Int × Unit) (fourF x0).1 else false then true else false, ()) : Bool × Unit))))))))))))) (((0 : Int), (0 : Int), (0 : Int) :: (0 : Int) :: (0 : Int) :: (0 : Int) :: ([] : List Int), ()) : Int × Int × List Int × Unit))))) else gd ((!!ieq (arrX ((x0, ((x1.1, x1.2.1, x1.2.2.1, x1.2.2.2.1, ()) : Int × Int × Int × Int × Unit), ()) : Int × (Int × Int × Int × Int × Unit) × Unit)).2.1 (6 : Int)) = true → (!!ieq (arrX ((x0, ((x1.1, x1.2.1, x1.2.2.1, x1.2.2.2.1, ()) : Int × Int × Int × Int × Unit), ()) : Int × (Int × Int × Int × Int × Unit) × Unit)).2.1 (6 : Int)) = true) (gd ((!ieq (arrX ((x0, ((x1.1, x1.2.1, x1.2.2.1, x1.2.2.2.1, ()) : Int × Int × Int × Int × Unit), ()) : Int × (Int × Int × Int × Int × Unit) × Unit)).2.1 (6 : Int)) = false → (!!ieq (arrX ((x0, ((x1.1, x1.2.1, x1.2.2.1, x1.2.2.2.1, ()) : Int × Int × Int × Int × Unit), ()) : Int × (Int × Int × Int × Int × Unit) × Unit)).2.1 (6 : Int)) = true) (bif bif !ieq (arrX ((x0, ((x1.1, x1.2.1, x1.2.2.1, x1.2.2.2.1, ()) : Int × Int × Int × Int × Unit), ()) : Int × (Int × Int × Int × Int × Unit) × Unit)).2.1 (6 : Int) then true else ilt x0 (4 : Int) then some ((false, ()) : Bool × Unit) else bif !(goodX ((x0, ((x1.1, x1.2.1, x1.2.2.1, x1.2.2.2.1, ()) : Int × Int × Int × Int × Unit), ()) : Int × (Int × Int × Int × Int × Unit) × Unit)).1 then some ((true, ()) : Bool × Unit) else gd ((4 : Nat) ≤ (4 : Nat)) (whileO (fun (d2 : Int × Int × List Int × Unit) => bif ilt d2.2.1 (4 : Int) then gd ((0 : Int) ≤ d2.2.1 ∧ d2.2.1 < (4 : Int)) (gd (is16 (@id Int (arrGet (4 : Nat) (Ty.int IntKind.i64) (((x1.1, x1.2.1, x1.2.2.1, x1.2.2.2.1, ()) : Int × Int × Int × Int × Unit) : Int × Int × Int × Int × Unit) (Int.toNat d2.2.1)))) (gd ((0 : Int) ≤ d2.2.1 ∧ d2.2.1 < (4 : Int)) (gd ((0 : Nat) + Int.toNat d2.2.1 * (1 : Nat) < List.length d2.2.2.1) (some (Lp.go ((wr IntKind.i64 (d2.1 + wr IntKind.i64 (wr IntKind.i64 (x0 - wr IntKind.i64 ((2 : Int) * pop (@id Int (arrGet (4 : Nat) (Ty.int IntKind.i64) (((x1.1, x1.2.1, x1.2.2.1, x1.2.2.2.1, ()) : Int × Int × Int × Int × Unit) : Int × Int × Int × Int × Unit) (Int.toNat d2.2.1))))) * wr IntKind.i64 (x0 - wr IntKind.i64 ((2 : Int) * pop (@id Int (arrGet (4 : Nat) (Ty.int IntKind.i64) (((x1.1, x1.2.1, x1.2.2.1, x1.2.2.2.1, ()) : Int × Int × Int × Int × Unit) : Int × Int × Int × Int × Unit) (Int.toNat d2.2.1))))))), wr IntKind.i64 (d2.2.1 + (1 : Int)), List.set d2.2.2.1 ((0 : Nat) + Int.toNat d2.2.1 * (1 : Nat)) (imax (wr IntKind.i64 (x0 - wr IntKind.i64 ((2 : Int) * pop (@id Int (arrGet (4 : Nat) (Ty.int IntKind.i64) (((x1.1, x1.2.1, x1.2.2.1, x1.2.2.2.1, ()) : Int × Int × Int × Int × Unit) : Int × Int × Int × Int × Unit) (Int.toNat d2.2.1)))))) (wr IntKind.i64 ((0 : Int) - wr IntKind.i64 (x0 - wr IntKind.i64 ((2 : Int) * pop (@id Int (arrGet (4 : Nat) (Ty.int IntKind.i64) (((x1.1, x1.2.1, x1.2.2.1, x1.2.2.2.1, ()) : Int × Int × Int × Int × Unit) : Int × Int × Int × Int × Unit) (Int.toNat d2.2.1)))))))), ()) : Int × Int × List Int × Unit)))))) else gd ((4 : Nat) = List.length d2.2.2.1) (gd ((4 : Nat) = List.length d2.2.2.1) (gd (List.length d2.2.2.1 < (4611686018427387904 : Nat)) (gd (ieq (fourF x0).2.1 (0 : Int) = true → ieq (fourF x0).2.1 (0 : Int) = true) (gd (ieq (fourF x0).2.1 (0 : Int) = true → ieq (fourF x0).2.1 (0 : Int) = true ∧ ieq (fourF x0).2.1 (0 : Int) = true) (gd (ieq (fourF x0).2.1 (0 : Int) = true → ieq (fourF x0).2.1 (0 : Int) = true) (gd ((bif ieq (fourF x0).2.1 (0 : Int) then ieq d2.1 (wr IntKind.i64 ((4 : Int) * x0)) else false) = true → (4 : Nat) ≤ List.length (sortL d2.2.2.1)) (gd ((bif ieq (fourF x0).2.1 (0 : Int) then ieq d2.1 (wr IntKind.i64 ((4 : Int) * x0)) else false) = true → (bif ieq (fourF x0).2.1 (0 : Int) then ieq d2.1 (wr IntKind.i64 ((4 : Int) * x0)) else false) = true ∧ (bif ieq (fourF x0).2.1 (0 : Int) then ieq d2.1 (wr IntKind.i64 ((4 : Int) * x0)) else false) = true ∧ List.length (fourF x0).1 ≤ (1000000000 : Nat)) (gd ((bif ieq (fourF x0).2.1 (0 : Int) then ieq d2.1 (wr IntKind.i64 ((4 : Int) * x0)) else false) = true → (bif ieq (fourF x0).2.1 (0 : Int) then ieq d2.1 (wr IntKind.i64 ((4 : Int) * x0)) else false) = true) (gd ((bif bif ieq (fourF x0).2.1 (0 : Int) then ieq d2.1 (wr IntKind.i64 ((4 : Int) * x0)) else false then has4 ((List.getD (sortL d2.2.2.1) (0 : Nat) (0 : Int), List.getD (sortL d2.2.2.1) (1 : Nat) (0 : Int), List.getD (sortL d2.2.2.1) (2 : Nat) (0 : Int), List.getD (sortL d2.2.2.1) (3 : Nat) (0 : Int), ()) : Int × Int × Int × Int × Unit) (fourF x0).1 else false) = true → (bif bif ieq (fourF x0).2.1 (0 : Int) then ieq d2.1 (wr IntKind.i64 ((4 : Int) * x0)) else false then has4 ((List.getD (sortL d2.2.2.1) (0 : Nat) (0 : Int), List.getD (sortL d2.2.2.1) (1 : Nat) (0 : Int), List.getD (sortL d2.2.2.1) (2 : Nat) (0 : Int), List.getD (sortL d2.2.2.1) (3 : Nat) (0 : Int), ()) : Int × Int × Int × Int × Unit) (fourF x0).1 else false) = true) (some (Lp.out ((bif bif bif ieq (fourF x0).2.1 (0 : Int) then ieq d2.1 (wr IntKind.i64 ((4 : Int) * x0)) else false then has4 ((List.getD (sortL d2.2.2.1) (0 : Nat) (0 : Int), List.getD (sortL d2.2.2.1) (1 : Nat) (0 : Int), List.getD (sortL d2.2.2.1) (2 : Nat) (0 : Int), List.getD (sortL d2.2.2.1) (3 : Nat) (0 : Int), ()) : Int × Int × Int × Int × Unit) (fourF x0).1 else false then true else false, ()) : Bool × Unit))))))))))))) (((0 : Int), (0 : Int), (0 : Int) :: (0 : Int) :: (0 : Int) :: (0 : Int) :: ([] : List Int), ()) : Int × Int × List Int × Unit))))))
noncomputable def g15_sh : List LSh := LSh.mk (((11, TV.ref (0) (1 : Nat) (0 : Nat) (0 : Nat)) : Nat × TV) :: ((12, TV.v (Ty.int IntKind.i64)) : Nat × TV) :: ((60, TV.v (Ty.int IntKind.i64)) : Nat × TV) :: ([] : List (Nat × TV))) (TB.arr (Ty.int IntKind.i64) false :: ([] : List TB)) :: ([] : List LSh)


end Go.Signs

set_option linter.unusedVariables false
set_option linter.unusedSimpArgs false
namespace Go.Signs
open Go Go.Ab Go.Proofs

def sgnS (m x : Int) : Int := m - 2 * pop x
def absS (m x : Int) : Int := imax (sgnS m x) (0 - sgnS m x)
def insI (x : Int) : List Int → List Int
  | [] => [x]
  | y :: l => if x ≤ y then x :: y :: l else y :: insI x l
def isoI : List Int → List Int
  | [] => []
  | x :: l => insI x (isoI l)
theorem insI_perm {x : Int} : ∀ {l : List Int}, (insI x l).Perm (x :: l)
  | [] => List.Perm.refl _
  | y :: l => by
    simp only [insI]
    split
    · exact List.Perm.refl _
    · exact ((insI_perm (x := x) (l := l)).cons y).trans (List.Perm.swap ..)
theorem isoI_perm : ∀ {l : List Int}, (isoI l).Perm l
  | [] => List.Perm.refl _
  | x :: l => insI_perm.trans (isoI_perm.cons x)
theorem insI_pw {x : Int} : ∀ {l : List Int}, l.Pairwise (· ≤ ·) → (insI x l).Pairwise (· ≤ ·)
  | [], _ => List.pairwise_singleton ..
  | y :: l, h => by
    obtain ⟨h1, h2⟩ := List.pairwise_cons.1 h
    simp only [insI]
    split
    · rename_i hxy
      refine List.Pairwise.cons (fun z hz => ?_) h
      rcases List.mem_cons.1 hz with rfl | hz
      · exact hxy
      · exact Int.le_trans hxy (h1 z hz)
    · refine List.Pairwise.cons (fun z hz => ?_) (insI_pw h2)
      rcases List.mem_cons.1 (insI_perm.mem_iff.1 hz) with rfl | hz
      · omega
      · exact h1 z hz
theorem isoI_pw : ∀ {l : List Int}, (isoI l).Pairwise (· ≤ ·)
  | [] => List.Pairwise.nil
  | x :: l => insI_pw isoI_pw
theorem sort_iso {l : List Int} : sortL l = isoI l :=
  (sortL_perm.trans isoI_perm.symm).eq_of_pairwise (fun a b _ _ h1 h2 => Int.le_antisymm h1 h2) sortL_pw isoI_pw

def wanted (m : Int) : List Int := if m = 1 then [1, 1, 1, 1] else if m = 3 then [1, 1, 1, 3] else [1, 1, 3, 3]
/-- What the law says of one quartet. -/
def tabG (m a b c d : Int) : Bool := !goodF (m, (a, b, c, d, ()), ()) || (decide (sgnS m a * sgnS m a + sgnS m b * sgnS m b + sgnS m c * sgnS m c + sgnS m d * sgnS m d = 4 * m) && decide (isoI [absS m a, absS m b, absS m c, absS m d] = wanted m))
def tabA (m a b c d : Int) : Bool := balF (arrF (m, (a, b, c, d, ()), ())) == goodF (m, (a, b, c, d, ()), ())
def sq1 : List Int := [0, 1]
def sq3 : List Int := [0, 1, 6, 7]
def sq5 : List Int := [0, 1, 12, 13, 18, 19, 30, 31]
def all4 (l : List Int) (f : Int → Int → Int → Int → Bool) : Bool := l.all fun a => l.all fun b => l.all fun c => l.all fun d => f a b c d
theorem all4_at {l : List Int} {f : Int → Int → Int → Int → Bool} (h : all4 l f = true) {a b c d : Int} (ha : a ∈ l) (hb : b ∈ l) (hc : c ∈ l) (hd : d ∈ l) : f a b c d = true :=
  List.all_eq_true.1 (List.all_eq_true.1 (List.all_eq_true.1 (List.all_eq_true.1 h a ha) b hb) c hc) d hd
set_option maxRecDepth 100000 in
theorem tab1 : all4 sq1 (fun a b c d => tabG 1 a b c d && tabA 1 a b c d) = true := by decide +kernel
set_option maxRecDepth 100000 in
theorem tab3 : all4 sq3 (fun a b c d => tabG 3 a b c d && tabA 3 a b c d) = true := by decide +kernel
set_option maxRecDepth 100000 in
theorem tab5 : all4 sq5 (fun a b c d => tabG 5 a b c d) = true := by decide +kernel
theorem seq1 : ∀ x ∈ List.range 32, seqB 1 (x : Int) = true → (x : Int) ∈ sq1 := by decide +kernel
theorem seq3 : ∀ x ∈ List.range 32, seqB 3 (x : Int) = true → (x : Int) ∈ sq3 := by decide +kernel
theorem seq5 : ∀ x ∈ List.range 32, seqB 5 (x : Int) = true → (x : Int) ∈ sq5 := by decide +kernel
theorem seq_in {m s : Int} {l : List Int} (hm : is135 m = true) (h : seqB m s = true) (ht : ∀ x ∈ List.range 32, seqB m (x : Int) = true → (x : Int) ∈ l) : s ∈ l := by
  obtain ⟨h1, h2⟩ := seq_bd hm h
  obtain ⟨n, rfl⟩ := Int.eq_ofNat_of_zero_le h1
  exact ht n (List.mem_range.2 (by omega)) h
/-- What the law says of any quartet. -/
theorem tab_ok {m a b c d : Int} (h : valQ (m, (a, b, c, d, ()), ()) = true) : tabG m a b c d = true ∧ (m ≤ 4 → balF (arrF (m, (a, b, c, d, ()), ())) = goodF (m, (a, b, c, d, ()), ())) := by
  obtain ⟨hm, ha, hb, hc, hd⟩ := valQ_iff.1 h
  rcases is135_iff.1 hm with rfl | rfl | rfl
  · have := all4_at tab1 (seq_in hm ha seq1) (seq_in hm hb seq1) (seq_in hm hc seq1) (seq_in hm hd seq1)
    rw [Bool.and_eq_true] at this
    exact ⟨this.1, fun _ => by have := this.2; unfold tabA at this; simpa using this⟩
  · have := all4_at tab3 (seq_in hm ha seq3) (seq_in hm hb seq3) (seq_in hm hc seq3) (seq_in hm hd seq3)
    rw [Bool.and_eq_true] at this
    exact ⟨this.1, fun _ => by have := this.2; unfold tabA at this; simpa using this⟩
  · exact ⟨all4_at tab5 (seq_in hm ha seq5) (seq_in hm hb seq5) (seq_in hm hc seq5) (seq_in hm hd seq5), fun h => absurd h (by decide)⟩
def has4W (m : Int) : Bool := has4 ((wanted m).getD 0 0, (wanted m).getD 1 0, (wanted m).getD 2 0, (wanted m).getD 3 0, ()) (fourF m).1 && decide ((fourF m).1.length ≤ 1000) && decide ((fourF m).2.1 = 0)
set_option maxRecDepth 100000 in
theorem has_tab : has4W 1 = true ∧ has4W 3 = true ∧ has4W 5 = true := by decide +kernel
end Go.Signs

set_option linter.unusedVariables false
set_option linter.unusedSimpArgs false
namespace Go.Signs
open Go Go.Ab Go.Proofs

theorem idx4_go {x : A4D} {l : List A4D} {i : Nat} {z : A4D} (h : i < l.length) (hq : l.getD i z ≠ x) : idx4 x (l.drop i) i = idx4 x (l.drop (i + 1)) (i + 1) := by
  rw [List.drop_eq_getElem_cons h]
  rw [gd_at h] at hq
  simp only [idx4, decide_eq_true_eq, if_neg hq]
theorem idx4_out {x : A4D} {l : List A4D} {i : Nat} {z : A4D} (h : i < l.length) (hq : l.getD i z = x) : idx4 x (l.drop i) i = i := by
  rw [List.drop_eq_getElem_cons h]
  rw [gd_at h] at hq
  simp only [idx4, decide_eq_true_eq, if_pos hq]
theorem idx4_loop {S X : Type} {step : S → Option (Lp S X)} (st : Nat → S) (out : Int → X) {x z : A4D} {l : List A4D}
    (h1 : ∀ i, i < l.length → l.getD i z = x → step (st i) = some (.out (out i))) (h2 : ∀ i, i < l.length → l.getD i z ≠ x → step (st i) = some (.go (st (i + 1)))) (h3 : step (st l.length) = some (.out (out (-1)))) :
    ∀ (n i : Nat), i + n = l.length → whileO step (st i) = some (out (idx4 x (l.drop i) i))
  | 0, i, hi => by
    have : i = l.length := by omega
    subst this
    rw [whileO_out h3, List.drop_length]; rfl
  | n + 1, i, hi => by
    have hil : i < l.length := by omega
    by_cases hq : l.getD i z = x
    · rw [whileO_out (h1 i hil hq), idx4_out hil hq]
    · rw [whileO_go (h2 i hil hq), idx4_go hil hq]
      exact idx4_loop st out h1 h2 h3 n (i + 1) (by omega)
theorem goal87 : con87.goal Try.prog (spOf []) g87_sh [] lm30 := by
  have e : (∀ (l : List A4D) (x : A4D), l.length ≤ 1000000000 → g87 l x = some (idx4 x l 0, ())) = con87.goal Try.prog (spOf []) g87_sh [] lm30 := by kernel_rfl
  rw [← e]
  rintro l ⟨a, b, c, d, ⟨⟩⟩ hl
  unfold g87
  have hde : ∀ x y : A4D, deq A4 x y = true ↔ x = y := fun x y => deq_iff (t := A4) rfl
  refine idx4_loop (x := (a, b, c, d, ())) (z := (0, 0, 0, 0, ())) (l := l) (st := fun i => (((i : Int), [a, b, c, d], ()) : Int × List Int × Unit)) (out := fun i => ((i, ()) : Int × Unit)) (fun i hi hq => ?_) (fun i hi hq => ?_) ?_ l.length 0 (by omega)
  · dsimp only
    rw [cond_t (ilt_iff.2 (by omega)), gd_pos (by simp), gd_pos (by omega), Int.toNat_natCast]
    refine (cond_t ((hde _ _).2 ?_)).trans rfl
    exact hq.symm
  · dsimp only
    rw [cond_t (ilt_iff.2 (by omega)), gd_pos (by simp), gd_pos (by omega), Int.toNat_natCast]
    refine (cond_f (Bool.eq_false_iff.2 fun h => hq ((hde _ _).1 h).symm)).trans ?_
    rw [cast1 (by omega)]
  · dsimp only
    rw [cond_f (ilt_false.2 (by omega))]
set_option maxRecDepth 100000 in
theorem ok87 : con87.Ok Try.prog := Con.of_goal mixed okN con87 goal87
theorem goal58 : con58.goal Try.prog (spOf [con87]) g58_sh [] lm30 := by
  have e : (∀ (l : List A4D) (x : A4D), l.length ≤ 1000000000 → g58 l x = some (has4 x l, ())) = con58.goal Try.prog (spOf [con87]) g58_sh [] lm30 := by kernel_rfl
  rw [← e]
  rintro l ⟨a, b, c, d, ⟨⟩⟩ hl
  unfold g58 has4
  rw [gd_pos (Nat.le_refl _), gd_pos hl]
set_option maxRecDepth 100000 in
theorem ok58 : con58.Ok Try.prog := Con.of_goal mixed (okC ok87 okN) con58 goal58

abbrev S15 := Int × Int × List Int × Unit
/-- One step of the sums. -/
def stepS (m : Int) (s : A4D) (d2 : S15) : S15 :=
  (wr .i64 (d2.1 + wr .i64 (wr .i64 (m - wr .i64 (2 * pop (@id Int (arrGet 4 (.int .i64) s (Int.toNat d2.2.1))))) * wr .i64 (m - wr .i64 (2 * pop (@id Int (arrGet 4 (.int .i64) s (Int.toNat d2.2.1))))))), wr .i64 (d2.2.1 + 1), List.set d2.2.2.1 (0 + Int.toNat d2.2.1 * 1) (imax (wr .i64 (m - wr .i64 (2 * pop (@id Int (arrGet 4 (.int .i64) s (Int.toNat d2.2.1)))))) (wr .i64 (0 - wr .i64 (m - wr .i64 (2 * pop (@id Int (arrGet 4 (.int .i64) s (Int.toNat d2.2.1)))))))), ())
theorem pop_bd {m x : Int} (hm : is135 m = true) (h : seqB m x = true) : -5 ≤ sgnS m x ∧ sgnS m x ≤ 5 ∧ is16 x ∧ 0 ≤ pop x ∧ pop x ≤ 5 := by
  obtain ⟨h1, h2⟩ := seq_bd hm h
  have tab : ∀ x ∈ List.range 32, popN x ≤ 5 ∧ (x < 8 → popN x ≤ 3) ∧ (x < 2 → popN x ≤ 1) := by decide +kernel
  obtain ⟨n, rfl⟩ := Int.eq_ofNat_of_zero_le h1
  have ht := tab n (List.mem_range.2 (by omega))
  have hx : ((n : Int)) < 2 ^ m.toNat := by
    unfold seqB at h
    simp only [Bool.and_eq_true, decide_eq_true_eq] at h
    exact h.1.2
  have hp : pop (n : Int) = (popN n : Int) := by unfold pop; rw [Int.toNat_natCast]
  unfold sgnS
  rw [hp]
  refine ⟨?_, ?_, nat16 (by omega), by omega, by omega⟩
  · rcases is135_iff.1 hm with rfl | rfl | rfl
    · have : (2 : Int) ^ (1 : Int).toNat = 2 := rfl
      omega
    · have : (2 : Int) ^ (3 : Int).toNat = 8 := rfl
      omega
    · omega
  · rcases is135_iff.1 hm with rfl | rfl | rfl <;> omega
theorem sq25 {x : Int} (h1 : -5 ≤ x) (h2 : x ≤ 5) : 0 ≤ x * x ∧ x * x ≤ 25 := by
  have : x = -5 ∨ x = -4 ∨ x = -3 ∨ x = -2 ∨ x = -1 ∨ x = 0 ∨ x = 1 ∨ x = 2 ∨ x = 3 ∨ x = 4 ∨ x = 5 := by omega
  rcases this with rfl | rfl | rfl | rfl | rfl | rfl | rfl | rfl | rfl | rfl | rfl <;> decide
theorem sums_loop {X : Type} {m a b c d : Int} (h : valQ (m, (a, b, c, d, ()), ()) = true) {step : S15 → Option (Lp S15 X)} {x : X}
    (hgo : ∀ (t : Int) (i : Nat) (l : List Int), i < 4 → l.length = 4 → step ((t, (i : Int), l, ()) : S15) = some (.go (stepS m (a, b, c, d, ()) ((t, (i : Int), l, ()) : S15))))
    (hend : step ((sgnS m a * sgnS m a + sgnS m b * sgnS m b + sgnS m c * sgnS m c + sgnS m d * sgnS m d, 4, [absS m a, absS m b, absS m c, absS m d], ()) : S15) = some (.out x)) :
    whileO step ((0, 0, [0, 0, 0, 0], ()) : S15) = some x := by
  obtain ⟨hm, ha, hb, hc, hd⟩ := valQ_iff.1 h
  have one : ∀ (t : Int) (i : Nat) (l : List Int) (y : Int), i < 4 → seqB m y = true → (@id Int (arrGet 4 (.int .i64) ((a, b, c, d, ()) : A4D) i)) = y → 0 ≤ t → t ≤ 75 → stepS m (a, b, c, d, ()) ((t, (i : Int), l, ()) : S15) = (t + sgnS m y * sgnS m y, ((i + 1 : Nat) : Int), l.set i (absS m y), ()) := by
    intro t i l y hi hy he ht0 ht
    obtain ⟨p1, p2, _, p4, p5⟩ := pop_bd hm hy
    obtain ⟨q1, q2⟩ := sq25 p1 p2
    have hm5 := is135_iff.1 hm
    have w1 : wr .i64 (2 * pop y) = 2 * pop y := wr_id (by omega)
    have w2 : wr .i64 (m - 2 * pop y) = sgnS m y := by
      unfold sgnS at *
      exact wr_id (by omega)
    have w3 : wr .i64 (sgnS m y * sgnS m y) = sgnS m y * sgnS m y := wr_id (by omega)
    have w4 : wr .i64 (0 - sgnS m y) = 0 - sgnS m y := wr_id (by omega)
    have w5 : wr .i64 (t + sgnS m y * sgnS m y) = t + sgnS m y * sgnS m y := wr_id (by omega)
    unfold stepS absS
    simp only [Int.toNat_natCast, he, w1, w2, w3, w4, w5, Nat.zero_add, Nat.mul_one]
    rw [cast1 (by omega)]
  obtain ⟨pa, pa', _⟩ := pop_bd hm ha
  obtain ⟨pb, pb', _⟩ := pop_bd hm hb
  obtain ⟨pc, pc', _⟩ := pop_bd hm hc
  have qa := sq25 pa pa'
  have qb := sq25 pb pb'
  have qc := sq25 pc pc'
  refine (whileO_go (hgo 0 0 [0, 0, 0, 0] (by omega) rfl)).trans ?_
  rw [one 0 0 [0, 0, 0, 0] a (by omega) ha rfl (by omega) (by omega), Int.zero_add]
  refine (whileO_go (hgo _ 1 _ (by omega) (by simp))).trans ?_
  rw [one _ 1 _ b (by omega) hb rfl (by omega) (by omega)]
  refine (whileO_go (hgo _ 2 _ (by omega) (by simp))).trans ?_
  rw [one _ 2 _ c (by omega) hc rfl (by omega) (by omega)]
  refine (whileO_go (hgo _ 3 _ (by omega) (by simp))).trans ?_
  rw [one _ 3 _ d (by omega) hd rfl (by omega) (by omega)]
  exact whileO_out hend

theorem len4 {l : List Int} : (sortL l).length = l.length := sortL_len
set_option maxRecDepth 100000 in
theorem goal15 : con15.goal Try.prog (spS [sortCon 57 true] [con35, con36, con30, con24, con56, con47, con58]) g15_sh [] lm30 := by
  have e : (∀ (m : Int) (s : A4D), g15 m s = some (true, ())) = con15.goal Try.prog (spS [sortCon 57 true] [con35, con36, con30, con24, con56, con47, con58]) g15_sh [] lm30 := by kernel_rfl
  rw [← e]
  rintro m ⟨a, b, c, d, ⟨⟩⟩
  have i00 : ieq 0 0 = true := rfl
  have i22 : ieq 2 2 = true := rfl
  have i20 : ieq 2 0 = false := rfl
  have i66 : ieq 6 6 = true := rfl
  have i60 : ieq 6 0 = false := rfl
  have hbb : ∀ x : Bool, beqB x x = true := fun x => by cases x <;> rfl
  unfold g15
  rw [gd_pos (Nat.le_refl _)]
  cases h : valQ (m, (a, b, c, d, ()), ()) with
  | false =>
    have hG : goodX (m, (a, b, c, d, ()), ()) = (false, 2, ()) := by rw [goodX, h]; rfl
    simp [hG, i20, i22, gd_true]
  | true =>
    obtain ⟨hm, ha, hb, hc, hd⟩ := valQ_iff.1 h
    have hm5 := is135_iff.1 hm
    have hG : goodX (m, (a, b, c, d, ()), ()) = (goodF (m, (a, b, c, d, ()), ()), 0, ()) := by rw [goodX, if_pos h]
    have hA : arrX (m, (a, b, c, d, ()), ()) = if m ≤ 4 then (arrF (m, (a, b, c, d, ()), ()), 0, ()) else ([], 6, ()) := by rw [arrX, if_pos h]
    obtain ⟨t1, t2⟩ := tab_ok h
    have hW : has4W m = true := by
      rcases hm5 with rfl | rfl | rfl
      · exact has_tab.1
      · exact has_tab.2.1
      · exact has_tab.2.2
    unfold has4W at hW
    simp only [Bool.and_eq_true, decide_eq_true_eq] at hW
    obtain ⟨⟨w1, w2⟩, w3⟩ := hW
    have hwm : wr .i64 (4 * m) = 4 * m := wr_id (by omega)
    have hend : goodF (m, (a, b, c, d, ()), ()) = true → sgnS m a * sgnS m a + sgnS m b * sgnS m b + sgnS m c * sgnS m c + sgnS m d * sgnS m d = 4 * m ∧ sortL [absS m a, absS m b, absS m c, absS m d] = wanted m := fun hg => by
      unfold tabG at t1
      rw [hg] at t1
      simp only [Bool.not_true, Bool.false_or, Bool.and_eq_true, decide_eq_true_eq] at t1
      exact ⟨t1.1, by rw [sort_iso]; exact t1.2⟩
    have hseq : ∀ i : Nat, i < 4 → is16 (@id Int (arrGet 4 (.int .i64) ((a, b, c, d, ()) : A4D) i)) := fun i hi => by
      rw [arr_sK hi]
      exact (pop_bd hm (sK_seq h hi)).2.2.1
    by_cases h4 : m ≤ 4
    · have hbal : balX (arrF (m, (a, b, c, d, ()), ())) = (goodF (m, (a, b, c, d, ()), ()), 0, ()) := by
        unfold balX
        rw [if_pos, t2 h4]
        unfold arrF
        exact made_isM (by simp only; omega) (by simp only; omega)
      have hsa : small (arrF (m, (a, b, c, d, ()), ())) := small16 (by unfold arrF; rw [made_len]; simp only; omega)
      rw [if_pos h4] at hA
      cases hg : goodF (m, (a, b, c, d, ()), ()) with
      | false =>
        rw [hg] at hbal hG
        simp [hG, hA, hbal, i00, gd_true, hsa, hbb]
      | true =>
        rw [hg] at hbal hG
        obtain ⟨e1, e2⟩ := hend hg
        simp only [hG, hA, hbal, i00, gd_true, hsa, hbb, Bool.not_true, Bool.not_false, cond_true, cond_false, imp_self, and_self, Nat.le_refl, gd_pos hsa, Bool.false_eq_true, Bool.true_eq_false, false_implies, reduceCtorEq]
        refine sums_loop h (fun t i l hi hl => ?_) ?_
        · have r1 : ilt (i : Int) 4 = true := ilt_iff.2 (by omega)
          have r2 : (0 : Int) ≤ (i : Int) ∧ (i : Int) < 4 := by omega
          have r3 : 0 + i * 1 < l.length := by omega
          simp only [r1, cond_true, gd_pos r2, Int.toNat_natCast, gd_pos (hseq i hi), gd_pos r3]
          rfl
        · have r1 : ilt 4 4 = false := rfl
          simp only [r1, cond_false, e1, e2, List.length_cons, List.length_nil, w3, i00, hwm, cond_true, ieq_iff.2 rfl, imp_self, and_self, gd_true, w1, w2]
          rw [gd_pos (by decide)]
          try simp only [Nat.reduceAdd, Nat.zero_add, gd_true]
          have hwl : (wanted m).length = 4 := by rw [← e2, len4]; rfl
          have w2' : (fourF m).1.length ≤ 1000000000 := by omega
          simp only [hwl, w2', Nat.le_refl, and_self, imp_self, gd_true, true_imp_iff]
    · rw [if_neg h4] at hA
      have h5 : ilt m 4 = false := ilt_false.2 (by omega)
      cases hg : goodF (m, (a, b, c, d, ()), ()) with
      | false =>
        rw [hg] at hG
        simp [hG, hA, i00, i60, i66, gd_true, hbb, h5]
      | true =>
        rw [hg] at hG
        obtain ⟨e1, e2⟩ := hend hg
        simp only [hG, hA, i00, i60, i66, h5, gd_true, hbb, Bool.not_true, Bool.not_false, cond_true, cond_false, imp_self, and_self, Nat.le_refl, Bool.false_eq_true, Bool.true_eq_false, false_implies, reduceCtorEq]
        refine sums_loop h (fun t i l hi hl => ?_) ?_
        · have r1 : ilt (i : Int) 4 = true := ilt_iff.2 (by omega)
          have r2 : (0 : Int) ≤ (i : Int) ∧ (i : Int) < 4 := by omega
          have r3 : 0 + i * 1 < l.length := by omega
          simp only [r1, cond_true, gd_pos r2, Int.toNat_natCast, gd_pos (hseq i hi), gd_pos r3]
          rfl
        · have r1 : ilt 4 4 = false := rfl
          simp only [r1, cond_false, e1, e2, List.length_cons, List.length_nil, w3, i00, hwm, cond_true, ieq_iff.2 rfl, imp_self, and_self, gd_true, w1, w2]
          rw [gd_pos (by decide)]
          try simp only [Nat.reduceAdd, Nat.zero_add, gd_true]
          have hwl : (wanted m).length = 4 := by rw [← e2, len4]; rfl
          have w2' : (fourF m).1.length ≤ 1000000000 := by omega
          simp only [hwl, w2', Nat.le_refl, and_self, imp_self, gd_true, true_imp_iff]
set_option maxRecDepth 100000 in
theorem ok15 : con15.Ok Try.prog := Con.of_goalS mixed (okC ok35 (okC ok36 (okC ok30 (okC ok24 (okC ok56 (okC ok47 (okC ok58 okN))))))) (okS (ok57 true) okS0) con15 goal15
end Go.Signs
