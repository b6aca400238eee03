/- All shapes, words, contents: contracts. -/
import Derived.Test.YtobghbapmlnmoaaXI
import Derived.Test.YtobghbapmlnmoaaXG
import Derived.Test.YtobghbapmlnmoaaSS
set_option linter.unusedVariables false
set_option linter.unusedSimpArgs false
namespace Go.Schur
open Go Go.Ab Go.Proofs
end Go.Schur

set_option linter.unusedVariables false
set_option linter.unusedSimpArgs false
namespace Go.Schur
open Go Go.Ab Go.Proofs

end Go.Schur

set_option linter.unusedVariables false
set_option linter.unusedSimpArgs false
namespace Go.Schur
open Go Go.Ab Go.Proofs

theorem cont_toI {m : List Int} (h : contB m = true) : ∃ q : List Nat, m = toI q ∧ q.length ≤ 8 ∧ q.sum ≤ 8 := by
  obtain ⟨h1, h2, h3⟩ := contB_iff.1 h
  have e := toI_toNat (l := m) (fun x hx => (h2 x hx).1)
  refine ⟨m.map Int.toNat, e.symm, by simpa using h1, ?_⟩
  have := toI_sum (p := m.map Int.toNat)
  rw [e] at this
  omega
theorem shape_P {n : Nat} {p : List Nat} (hn : n ≤ 8) (hp : p ∈ P n) : shapeB (toI p) = true := by
  have : ∀ p ∈ allP, shapeB (toI p) = true := by decide +kernel
  exact this p (allP_iff.2 ⟨n, hn, hp⟩)
theorem small_P {n : Nat} {p : List Nat} (hn : n ≤ 8) (hp : p ∈ P n) : Small8 p := by
  obtain ⟨p', _, e, h, _⟩ := shape_allP (shape_P hn hp)
  have := congrArg (List.map Int.toNat) e
  rw [toNat_toI, toNat_toI] at this
  rw [this]; exact h
/-- The number of fillings of a shape with a content, for shapes and contents as they come. -/
theorem kosF_P {n : Nat} {p q : List Nat} (hn : n ≤ 8) (hp : p ∈ P n) (hq : q.length ≤ 8) (hs : q.sum ≤ 8) : kosF (toI p) (toI q) = (((if n = q.sum then kR q p else 0 : Nat) : Int), 0, ()) := by
  unfold kosF
  rw [if_pos ⟨shape_P hn hp, toI_cont hq hs⟩, kos_kR (small_P hn hp) (by rw [sum_P hn hp]; exact hn) hq hs, sum_P hn hp]
  by_cases h : n = q.sum
  · rw [if_pos h, if_pos h, kR_perm (List.reverse_perm q) hn hp (by rw [List.sum_reverse]; exact h.symm)]
  · rw [if_neg h, if_neg h]; rfl
theorem whileO_at {S X : Type} {step : S → Option (Lp S X)} {s0 : S} (st : Nat → S) (n : Nat) (x : X) (h0 : st 0 = s0) (hgo : ∀ i, i < n → step (st i) = some (.go (st (i + 1)))) (hout : step (st n) = some (.out x)) : whileO step s0 = some x := by
  rw [← h0]; exact whileO_ind st n x hgo hout

end Go.Schur

set_option linter.unusedVariables false
set_option linter.unusedSimpArgs false
namespace Go.Schur
open Go Go.Ab Go.Proofs
def revI (l : List Int) : List Int := l.reverse
def first12 (l : List Int) : List Int := l.take 12
noncomputable def con59 : SCon := mkS 59 [.slf 0 1] [.arr I64 true] [] [.arr I64 true] (fun (l : List Int) => [l.length ≤ 1000]) (fun (l : List Int) => (revI l, ()))
noncomputable def g59 (x0 : List Int) : Option (List Int × Unit) := gd (List.length x0 = List.length x0) (whileO (fun (d1 : Int × Int × List Int × Unit) => bif ilt d1.1 d1.2.1 then gd ((0 : Int) ≤ d1.2.1 ∧ d1.2.1 < (↑(List.length d1.2.2.1) : Int)) (gd ((0 : Nat) + Int.toNat d1.2.1 < List.length d1.2.2.1) (gd ((0 : Int) ≤ d1.1 ∧ d1.1 < (↑(List.length d1.2.2.1) : Int)) (gd ((0 : Nat) + Int.toNat d1.1 < List.length d1.2.2.1) (gd ((0 : Int) ≤ d1.1 ∧ d1.1 < (↑(List.length d1.2.2.1) : Int)) (gd ((0 : Nat) + Int.toNat d1.1 < List.length d1.2.2.1) (gd ((0 : Int) ≤ d1.2.1 ∧ d1.2.1 < (↑(List.length d1.2.2.1) : Int)) (gd ((0 : Nat) + Int.toNat d1.2.1 < List.length (List.set d1.2.2.1 ((0 : Nat) + Int.toNat d1.1) (List.getD d1.2.2.1 ((0 : Nat) + Int.toNat d1.2.1) (0 : Int)))) (gd (List.length d1.2.2.1 = List.length (List.set (List.set d1.2.2.1 ((0 : Nat) + Int.toNat d1.1) (List.getD d1.2.2.1 ((0 : Nat) + Int.toNat d1.2.1) (0 : Int))) ((0 : Nat) + Int.toNat d1.2.1) (List.getD d1.2.2.1 ((0 : Nat) + Int.toNat d1.1) (0 : Int)))) (some (Lp.go ((wr IntKind.i64 (d1.1 + (1 : Int)), wr IntKind.i64 (d1.2.1 - (1 : Int)), List.set (List.set d1.2.2.1 ((0 : Nat) + Int.toNat d1.1) (List.getD d1.2.2.1 ((0 : Nat) + Int.toNat d1.2.1) (0 : Int))) ((0 : Nat) + Int.toNat d1.2.1) (List.getD d1.2.2.1 ((0 : Nat) + Int.toNat d1.1) (0 : Int)), ()) : Int × Int × List Int × Unit))))))))))) else some (Lp.out ((d1.2.2.1, ()) : List Int × Unit))) (((0 : Int), wr IntKind.i64 ((↑(List.length x0) : Int) - (1 : Int)), x0, ()) : Int × Int × List Int × Unit))
noncomputable def g59_sh : List LSh := LSh.mk3 (((0, TV.slf (0) (1)) : Nat × TV) :: ((2, TV.v (Ty.int IntKind.i64)) : Nat × TV) :: ((3, TV.v (Ty.int IntKind.i64)) : Nat × TV) :: ([] : List (Nat × TV))) (TB.arr (Ty.int IntKind.i64) true :: ([] : List TB)) (1) :: ([] : List LSh)
noncomputable def con20s : SCon := mkS 20 [.v LI] [] [.slf 0 1] [.arr I64 true] (fun (l : List Int) => []) (fun (l : List Int) => (first12 l, ()))
noncomputable def g20s (x0 : List Int) : Option (List Int × Unit) := gd ((0 : Int) ≤ imin (↑(List.length x0) : Int) (12 : Int) ∧ imin (↑(List.length x0) : Int) (12 : Int) ≤ (↑(List.length x0) : Int)) (gd (List.length (List.take (Int.toNat (imin (↑(List.length x0) : Int) (12 : Int))) x0) ≤ (100000 : Nat)) (gd (List.length (List.take (Int.toNat (imin (↑(List.length x0) : Int) (12 : Int))) x0) = List.length (List.take (Int.toNat (imin (↑(List.length x0) : Int) (12 : Int))) x0)) (some ((List.take (Int.toNat (imin (↑(List.length x0) : Int) (12 : Int))) x0, ()) : List Int × Unit))))
noncomputable def g20s_sh : List LSh := ([] : List LSh)
noncomputable def con16 : Con := mkC 16 [.d LI, .d LI, .d I64] [.bool] (fun (l m : List Int) (b : Int) => [small l ∧ small m]) (fun (l m : List Int) (b : Int) => (true, ()))
noncomputable def g16_c0 (x0 x1 : List Int) (x2 : Int) : Int := (kosF (List.take (List.length (first12 x0)) (List.drop (0 : Nat) (first12 x0))) (List.take (List.length (first12 (List.drop (Int.toNat (wr IntKind.i64 (Int.tmod (wr IntKind.u64 x2) (wr IntKind.u64 (imax (↑(List.length x1) : Int) (1 : Int)))))) x1)) + List.length (List.take (List.length (first12 (List.take (Int.toNat (wr IntKind.i64 (Int.tmod (wr IntKind.u64 x2) (wr IntKind.u64 (imax (↑(List.length x1) : Int) (1 : Int)))))) x1))) (List.drop (0 : Nat) (first12 (List.take (Int.toNat (wr IntKind.i64 (Int.tmod (wr IntKind.u64 x2) (wr IntKind.u64 (imax (↑(List.length x1) : Int) (1 : Int)))))) x1))))) (List.drop (0 : Nat) (List.take (List.length (first12 (List.drop (Int.toNat (wr IntKind.i64 (Int.tmod (wr IntKind.u64 x2) (wr IntKind.u64 (imax (↑(List.length x1) : Int) (1 : Int)))))) x1))) (first12 (List.drop (Int.toNat (wr IntKind.i64 (Int.tmod (wr IntKind.u64 x2) (wr IntKind.u64 (imax (↑(List.length x1) : Int) (1 : Int)))))) x1)) ++ List.take (List.length (first12 (List.take (Int.toNat (wr IntKind.i64 (Int.tmod (wr IntKind.u64 x2) (wr IntKind.u64 (imax (↑(List.length x1) : Int) (1 : Int)))))) x1))) (List.drop (0 : Nat) (first12 (List.take (Int.toNat (wr IntKind.i64 (Int.tmod (wr IntKind.u64 x2) (wr IntKind.u64 (imax (↑(List.length x1) : Int) (1 : Int)))))) x1))))))).1
noncomputable def g16_c1 (x0 x1 : List Int) (x2 : Int) : Int := (kosF (List.take (List.length (first12 x0)) (List.drop (0 : Nat) (first12 x0))) (List.take (List.length (first12 (List.drop (Int.toNat (wr IntKind.i64 (Int.tmod (wr IntKind.u64 x2) (wr IntKind.u64 (imax (↑(List.length x1) : Int) (1 : Int)))))) x1)) + List.length (List.take (List.length (first12 (List.take (Int.toNat (wr IntKind.i64 (Int.tmod (wr IntKind.u64 x2) (wr IntKind.u64 (imax (↑(List.length x1) : Int) (1 : Int)))))) x1))) (List.drop (0 : Nat) (first12 (List.take (Int.toNat (wr IntKind.i64 (Int.tmod (wr IntKind.u64 x2) (wr IntKind.u64 (imax (↑(List.length x1) : Int) (1 : Int)))))) x1))))) (List.drop (0 : Nat) (List.take (List.length (first12 (List.drop (Int.toNat (wr IntKind.i64 (Int.tmod (wr IntKind.u64 x2) (wr IntKind.u64 (imax (↑(List.length x1) : Int) (1 : Int)))))) x1))) (first12 (List.drop (Int.toNat (wr IntKind.i64 (Int.tmod (wr IntKind.u64 x2) (wr IntKind.u64 (imax (↑(List.length x1) : Int) (1 : Int)))))) x1)) ++ List.take (List.length (first12 (List.take (Int.toNat (wr IntKind.i64 (Int.tmod (wr IntKind.u64 x2) (wr IntKind.u64 (imax (↑(List.length x1) : Int) (1 : Int)))))) x1))) (List.drop (0 : Nat) (first12 (List.take (Int.toNat (wr IntKind.i64 (Int.tmod (wr IntKind.u64 x2) (wr IntKind.u64 (imax (↑(List.length x1) : Int) (1 : Int)))))) x1))))))).2.1
noncomputable def g16_c2 (x0 : List Int) (d3 : Int × Int × Int × Bool × Int × List Int × Unit) : Bool := ilt (wr IntKind.i64 (d3.2.1 + List.getD x0 (Int.toNat d3.2.2.2.2.1) (0 : Int))) (wr IntKind.i64 (d3.2.2.1 + List.getD d3.2.2.2.2.2.1 ((0 : Nat) + Int.toNat d3.2.2.2.2.1) (0 : Int)))
noncomputable def g16_c3 (d3 : Int × Int × Int × Bool × Int × List Int × Unit) : Bool := bif d3.2.2.2.1 then true else ilt d3.2.1 (wr IntKind.i64 (d3.2.2.1 + List.getD d3.2.2.2.2.2.1 ((0 : Nat) + Int.toNat d3.2.2.2.2.1) (0 : Int)))
noncomputable def g16_c4 (x0 : List Int) (d3 : Int × Int × Int × Bool × Int × List Int × Unit) : Int := (kosF (List.take (List.length (first12 x0)) (List.drop (0 : Nat) (first12 x0))) (List.take ((0 : Nat) + List.length (List.take (Int.toNat d3.1) (List.drop (0 : Nat) d3.2.2.2.2.2.1))) (List.drop (0 : Nat) (List.take (Int.toNat d3.1) (List.drop (0 : Nat) d3.2.2.2.2.2.1))))).1
noncomputable def g16_c5 (x0 : List Int) (d3 : Int × Int × Int × Bool × Int × List Int × Unit) : Int := (kosF (List.take (List.length (first12 x0)) (List.drop (0 : Nat) (first12 x0))) (List.take ((0 : Nat) + List.length (List.take (Int.toNat d3.1) (List.drop (0 : Nat) d3.2.2.2.2.2.1))) (List.drop (0 : Nat) (List.take (Int.toNat d3.1) (List.drop (0 : Nat) d3.2.2.2.2.2.1))))).2.1
noncomputable def g16_c6 (x0 x1 : List Int) (x2 : Int) : Bool := bif ieq (kosF (List.take (List.length (first12 x0)) (List.drop (0 : Nat) (first12 x0))) (List.take (List.length (first12 x1)) (List.drop (0 : Nat) (first12 x1)))).1 (g16_c0 x0 x1 x2) then ieq (g16_c1 x0 x1 x2) (0 : Int) else false
noncomputable def g16_c7 (x0 x1 : List Int) (x2 : Int) : Bool := bif bif g16_c6 x0 x1 x2 then ieq (kosF (List.take (List.length (first12 x0)) (List.drop (0 : Nat) (first12 x0))) (List.take (List.length (first12 x0)) (List.drop (0 : Nat) (first12 x0)))).1 (1 : Int) else false then ieq (kosF (List.take (List.length (first12 x0)) (List.drop (0 : Nat) (first12 x0))) (List.take (List.length (first12 x0)) (List.drop (0 : Nat) (first12 x0)))).2.1 (0 : Int) else false
noncomputable def g16_c8 (x0 x1 : List Int) (x2 : Int) (d3 : Int × Int × Int × Bool × Int × List Int × Unit) : Bool := bif bif g16_c7 x0 x1 x2 then ieq (g16_c4 x0 d3) (kosF (List.take (List.length (first12 x0)) (List.drop (0 : Nat) (first12 x0))) (List.take (List.length (first12 x1)) (List.drop (0 : Nat) (first12 x1)))).1 else false then ieq (g16_c5 x0 d3) (0 : Int) else false
noncomputable def g16_c9 (x0 x1 : List Int) (d3 : Int × Int × Int × Bool × Int × List Int × Unit) : Bool := beqB (ilt (0 : Int) (kosF (List.take (List.length (first12 x0)) (List.drop (0 : Nat) (first12 x0))) (List.take (List.length (first12 x1)) (List.drop (0 : Nat) (first12 x1)))).1) (bif ieq d3.2.1 d3.2.2.1 then !d3.2.2.2.1 else false)
noncomputable def g16 (x0 x1 : List Int) (x2 : Int) : Option (Bool × Unit) := gd ((0 : Nat) + List.length (first12 x0) ≤ List.length (first12 x0)) (gd ((0 : Nat) + List.length (first12 x1) ≤ List.length (first12 x1)) (gd (List.length (List.take (List.length (first12 x0)) (List.drop (0 : Nat) (first12 x0))) ≤ (1000 : Nat) ∧ List.length (List.take (List.length (first12 x1)) (List.drop (0 : Nat) (first12 x1))) ≤ (1000 : Nat)) (bif !ieq (kosF (List.take (List.length (first12 x0)) (List.drop (0 : Nat) (first12 x0))) (List.take (List.length (first12 x1)) (List.drop (0 : Nat) (first12 x1)))).2.1 (0 : Int) then gd (ieq (kosF (List.take (List.length (first12 x0)) (List.drop (0 : Nat) (first12 x0))) (List.take (List.length (first12 x1)) (List.drop (0 : Nat) (first12 x1)))).2.1 (2 : Int) = true → ieq (kosF (List.take (List.length (first12 x0)) (List.drop (0 : Nat) (first12 x0))) (List.take (List.length (first12 x1)) (List.drop (0 : Nat) (first12 x1)))).2.1 (2 : Int) = true) (some ((bif ieq (kosF (List.take (List.length (first12 x0)) (List.drop (0 : Nat) (first12 x0))) (List.take (List.length (first12 x1)) (List.drop (0 : Nat) (first12 x1)))).2.1 (2 : Int) then true else false, ()) : Bool × Unit)) else gd (wr IntKind.u64 (imax (↑(List.length x1) : Int) (1 : Int)) ≠ (0 : Int)) (gd ((0 : Int) ≤ wr IntKind.i64 (Int.tmod (wr IntKind.u64 x2) (wr IntKind.u64 (imax (↑(List.length x1) : Int) (1 : Int)))) ∧ wr IntKind.i64 (Int.tmod (wr IntKind.u64 x2) (wr IntKind.u64 (imax (↑(List.length x1) : Int) (1 : Int)))) ≤ (↑(List.length x1) : Int)) (gd ((0 : Int) ≤ wr IntKind.i64 (Int.tmod (wr IntKind.u64 x2) (wr IntKind.u64 (imax (↑(List.length x1) : Int) (1 : Int)))) ∧ wr IntKind.i64 (Int.tmod (wr IntKind.u64 x2) (wr IntKind.u64 (imax (↑(List.length x1) : Int) (1 : Int)))) ≤ (↑(List.length x1) : Int)) (gd ((0 : Nat) + List.length (first12 (List.take (Int.toNat (wr IntKind.i64 (Int.tmod (wr IntKind.u64 x2) (wr IntKind.u64 (imax (↑(List.length x1) : Int) (1 : Int)))))) x1)) ≤ List.length (first12 (List.take (Int.toNat (wr IntKind.i64 (Int.tmod (wr IntKind.u64 x2) (wr IntKind.u64 (imax (↑(List.length x1) : Int) (1 : Int)))))) x1))) (gd (List.length (first12 (List.drop (Int.toNat (wr IntKind.i64 (Int.tmod (wr IntKind.u64 x2) (wr IntKind.u64 (imax (↑(List.length x1) : Int) (1 : Int)))))) x1)) ≤ List.length (first12 (List.drop (Int.toNat (wr IntKind.i64 (Int.tmod (wr IntKind.u64 x2) (wr IntKind.u64 (imax (↑(List.length x1) : Int) (1 : Int)))))) x1))) (gd ((List.length (first12 (List.drop (Int.toNat (wr IntKind.i64 (Int.tmod (wr IntKind.u64 x2) (wr IntKind.u64 (imax (↑(List.length x1) : Int) (1 : Int)))))) x1)) + List.length (List.take (List.length (first12 (List.take (Int.toNat (wr IntKind.i64 (Int.tmod (wr IntKind.u64 x2) (wr IntKind.u64 (imax (↑(List.length x1) : Int) (1 : Int)))))) x1))) (List.drop (0 : Nat) (first12 (List.take (Int.toNat (wr IntKind.i64 (Int.tmod (wr IntKind.u64 x2) (wr IntKind.u64 (imax (↑(List.length x1) : Int) (1 : Int)))))) x1))))) * (8 : Nat) ≤ (1099511627776 : Nat)) (gd ((0 : Nat) + List.length (first12 x0) ≤ List.length (first12 x0)) (gd ((0 : Nat) + (List.length (first12 (List.drop (Int.toNat (wr IntKind.i64 (Int.tmod (wr IntKind.u64 x2) (wr IntKind.u64 (imax (↑(List.length x1) : Int) (1 : Int)))))) x1)) + List.length (List.take (List.length (first12 (List.take (Int.toNat (wr IntKind.i64 (Int.tmod (wr IntKind.u64 x2) (wr IntKind.u64 (imax (↑(List.length x1) : Int) (1 : Int)))))) x1))) (List.drop (0 : Nat) (first12 (List.take (Int.toNat (wr IntKind.i64 (Int.tmod (wr IntKind.u64 x2) (wr IntKind.u64 (imax (↑(List.length x1) : Int) (1 : Int)))))) x1))))) ≤ List.length (List.take (List.length (first12 (List.drop (Int.toNat (wr IntKind.i64 (Int.tmod (wr IntKind.u64 x2) (wr IntKind.u64 (imax (↑(List.length x1) : Int) (1 : Int)))))) x1))) (first12 (List.drop (Int.toNat (wr IntKind.i64 (Int.tmod (wr IntKind.u64 x2) (wr IntKind.u64 (imax (↑(List.length x1) : Int) (1 : Int)))))) x1)) ++ List.take (List.length (first12 (List.take (Int.toNat (wr IntKind.i64 (Int.tmod (wr IntKind.u64 x2) (wr IntKind.u64 (imax (↑(List.length x1) : Int) (1 : Int)))))) x1))) (List.drop (0 : Nat) (first12 (List.take (Int.toNat (wr IntKind.i64 (Int.tmod (wr IntKind.u64 x2) (wr IntKind.u64 (imax (↑(List.length x1) : Int) (1 : Int)))))) x1))))) (gd (List.length (List.take (List.length (first12 x0)) (List.drop (0 : Nat) (first12 x0))) ≤ (1000 : Nat) ∧ List.length (List.take (List.length (first12 (List.drop (Int.toNat (wr IntKind.i64 (Int.tmod (wr IntKind.u64 x2) (wr IntKind.u64 (imax (↑(List.length x1) : Int) (1 : Int)))))) x1)) + List.length (List.take (List.length (first12 (List.take (Int.toNat (wr IntKind.i64 (Int.tmod (wr IntKind.u64 x2) (wr IntKind.u64 (imax (↑(List.length x1) : Int) (1 : Int)))))) x1))) (List.drop (0 : Nat) (first12 (List.take (Int.toNat (wr IntKind.i64 (Int.tmod (wr IntKind.u64 x2) (wr IntKind.u64 (imax (↑(List.length x1) : Int) (1 : Int)))))) x1))))) (List.drop (0 : Nat) (List.take (List.length (first12 (List.drop (Int.toNat (wr IntKind.i64 (Int.tmod (wr IntKind.u64 x2) (wr IntKind.u64 (imax (↑(List.length x1) : Int) (1 : Int)))))) x1))) (first12 (List.drop (Int.toNat (wr IntKind.i64 (Int.tmod (wr IntKind.u64 x2) (wr IntKind.u64 (imax (↑(List.length x1) : Int) (1 : Int)))))) x1)) ++ List.take (List.length (first12 (List.take (Int.toNat (wr IntKind.i64 (Int.tmod (wr IntKind.u64 x2) (wr IntKind.u64 (imax (↑(List.length x1) : Int) (1 : Int)))))) x1))) (List.drop (0 : Nat) (first12 (List.take (Int.toNat (wr IntKind.i64 (Int.tmod (wr IntKind.u64 x2) (wr IntKind.u64 (imax (↑(List.length x1) : Int) (1 : Int)))))) x1)))))) ≤ (1000 : Nat)) (gd ((0 : Nat) + List.length (first12 x0) ≤ List.length (first12 x0)) (gd ((0 : Nat) + List.length (first12 x0) ≤ List.length (first12 x0)) (gd (List.length (List.take (List.length (first12 x0)) (List.drop (0 : Nat) (first12 x0))) ≤ (1000 : Nat) ∧ List.length (List.take (List.length (first12 x0)) (List.drop (0 : Nat) (first12 x0))) ≤ (1000 : Nat)) (gd (List.length (first12 x1) = List.length (first12 x1)) (gd (List.length (first12 x1) < (4611686018427387904 : Nat)) (gd (List.length (first12 x1) = List.length (sortL (first12 x1))) (gd (List.length (sortL (first12 x1)) ≤ (1000 : Nat)) (whileO (fun (d3 : Int × Int × Int × Bool × Int × List Int × Unit) => bif ilt d3.2.2.2.2.1 (imax (↑(List.length x0) : Int) (↑(List.length (first12 x1)) : Int)) then bif ilt d3.2.2.2.2.1 (↑(List.length x0) : Int) then gd ((0 : Int) ≤ d3.2.2.2.2.1 ∧ d3.2.2.2.2.1 < (↑(List.length x0) : Int)) (bif ilt d3.2.2.2.2.1 (↑(Int.toNat d3.1) : Int) then gd ((0 : Int) ≤ d3.2.2.2.2.1 ∧ d3.2.2.2.2.1 < (↑(Int.toNat d3.1) : Int)) (gd ((0 : Nat) + Int.toNat d3.2.2.2.2.1 < List.length d3.2.2.2.2.2.1) (gd ((!d3.2.2.2.1) = true → (!d3.2.2.2.1) = true ∧ (!d3.2.2.2.1) = true) (gd (d3.2.2.2.1 = false → (!d3.2.2.2.1) = true) (some (Lp.go (((↑(Int.toNat d3.1) : Int), wr IntKind.i64 (d3.2.1 + List.getD x0 (Int.toNat d3.2.2.2.2.1) (0 : Int)), wr IntKind.i64 (d3.2.2.1 + List.getD d3.2.2.2.2.2.1 ((0 : Nat) + Int.toNat d3.2.2.2.2.1) (0 : Int)), bif d3.2.2.2.1 then true else g16_c2 x0 d3, wr IntKind.i64 (d3.2.2.2.2.1 + (1 : Int)), d3.2.2.2.2.2.1, ()) : Int × Int × Int × Bool × Int × List Int × Unit)))))) else gd ((!d3.2.2.2.1) = true → (!d3.2.2.2.1) = true ∧ (!d3.2.2.2.1) = true) (gd (d3.2.2.2.1 = false → (!d3.2.2.2.1) = true) (some (Lp.go (((↑(Int.toNat d3.1) : Int), wr IntKind.i64 (d3.2.1 + List.getD x0 (Int.toNat d3.2.2.2.2.1) (0 : Int)), d3.2.2.1, bif d3.2.2.2.1 then true else ilt (wr IntKind.i64 (d3.2.1 + List.getD x0 (Int.toNat d3.2.2.2.2.1) (0 : Int))) d3.2.2.1, wr IntKind.i64 (d3.2.2.2.2.1 + (1 : Int)), d3.2.2.2.2.2.1, ()) : Int × Int × Int × Bool × Int × List Int × Unit))))) else bif ilt d3.2.2.2.2.1 (↑(Int.toNat d3.1) : Int) then gd ((0 : Int) ≤ d3.2.2.2.2.1 ∧ d3.2.2.2.2.1 < (↑(Int.toNat d3.1) : Int)) (gd ((0 : Nat) + Int.toNat d3.2.2.2.2.1 < List.length d3.2.2.2.2.2.1) (gd ((!d3.2.2.2.1) = true → (!d3.2.2.2.1) = true ∧ (!d3.2.2.2.1) = true) (gd (d3.2.2.2.1 = false → (!d3.2.2.2.1) = true) (some (Lp.go (((↑(Int.toNat d3.1) : Int), d3.2.1, wr IntKind.i64 (d3.2.2.1 + List.getD d3.2.2.2.2.2.1 ((0 : Nat) + Int.toNat d3.2.2.2.2.1) (0 : Int)), g16_c3 d3, wr IntKind.i64 (d3.2.2.2.2.1 + (1 : Int)), d3.2.2.2.2.2.1, ()) : Int × Int × Int × Bool × Int × List Int × Unit)))))) else gd ((!d3.2.2.2.1) = true → (!d3.2.2.2.1) = true ∧ (!d3.2.2.2.1) = true) (gd (d3.2.2.2.1 = false → (!d3.2.2.2.1) = true) (some (Lp.go (((↑(Int.toNat d3.1) : Int), d3.2.1, d3.2.2.1, bif d3.2.2.2.1 then true else ilt d3.2.1 d3.2.2.1, wr IntKind.i64 (d3.2.2.2.2.1 + (1 : Int)), d3.2.2.2.2.2.1, ()) : Int × Int × Int × Bool × Int × List Int × Unit)))) else gd ((0 : Nat) + Int.toNat d3.1 ≤ List.length d3.2.2.2.2.2.1) (gd ((0 : Nat) ≤ (0 : Nat)) (gd (((0 : Nat) + List.length (List.take (Int.toNat d3.1) (List.drop (0 : Nat) d3.2.2.2.2.2.1))) * (8 : Nat) ≤ (1099511627776 : Nat)) (gd ((0 : Nat) + List.length (first12 x0) ≤ List.length (first12 x0)) (gd ((0 : Nat) + ((0 : Nat) + List.length (List.take (Int.toNat d3.1) (List.drop (0 : Nat) d3.2.2.2.2.2.1))) ≤ List.length (List.take (Int.toNat d3.1) (List.drop (0 : Nat) d3.2.2.2.2.2.1))) (gd (List.length (List.take (List.length (first12 x0)) (List.drop (0 : Nat) (first12 x0))) ≤ (1000 : Nat) ∧ List.length (List.take ((0 : Nat) + List.length (List.take (Int.toNat d3.1) (List.drop (0 : Nat) d3.2.2.2.2.2.1))) (List.drop (0 : Nat) (List.take (Int.toNat d3.1) (List.drop (0 : Nat) d3.2.2.2.2.2.1)))) ≤ (1000 : Nat)) (gd (ieq (kosF (List.take (List.length (first12 x0)) (List.drop (0 : Nat) (first12 x0))) (List.take (List.length (first12 x1)) (List.drop (0 : Nat) (first12 x1)))).1 (g16_c0 x0 x1 x2) = true → ieq (kosF (List.take (List.length (first12 x0)) (List.drop (0 : Nat) (first12 x0))) (List.take (List.length (first12 x1)) (List.drop (0 : Nat) (first12 x1)))).1 (g16_c0 x0 x1 x2) = true) (gd (ieq (kosF (List.take (List.length (first12 x0)) (List.drop (0 : Nat) (first12 x0))) (List.take (List.length (first12 x1)) (List.drop (0 : Nat) (first12 x1)))).1 (g16_c0 x0 x1 x2) = true → ieq (kosF (List.take (List.length (first12 x0)) (List.drop (0 : Nat) (first12 x0))) (List.take (List.length (first12 x1)) (List.drop (0 : Nat) (first12 x1)))).1 (g16_c0 x0 x1 x2) = true) (gd (g16_c6 x0 x1 x2 = true → g16_c6 x0 x1 x2 = true) (gd (g16_c6 x0 x1 x2 = true → g16_c6 x0 x1 x2 = true) (gd ((bif g16_c6 x0 x1 x2 then ieq (kosF (List.take (List.length (first12 x0)) (List.drop (0 : Nat) (first12 x0))) (List.take (List.length (first12 x0)) (List.drop (0 : Nat) (first12 x0)))).1 (1 : Int) else false) = true → (bif g16_c6 x0 x1 x2 then ieq (kosF (List.take (List.length (first12 x0)) (List.drop (0 : Nat) (first12 x0))) (List.take (List.length (first12 x0)) (List.drop (0 : Nat) (first12 x0)))).1 (1 : Int) else false) = true) (gd ((bif g16_c6 x0 x1 x2 then ieq (kosF (List.take (List.length (first12 x0)) (List.drop (0 : Nat) (first12 x0))) (List.take (List.length (first12 x0)) (List.drop (0 : Nat) (first12 x0)))).1 (1 : Int) else false) = true → (bif g16_c6 x0 x1 x2 then ieq (kosF (List.take (List.length (first12 x0)) (List.drop (0 : Nat) (first12 x0))) (List.take (List.length (first12 x0)) (List.drop (0 : Nat) (first12 x0)))).1 (1 : Int) else false) = true) (gd (g16_c7 x0 x1 x2 = true → g16_c7 x0 x1 x2 = true ∧ g16_c7 x0 x1 x2 = true) (gd (g16_c7 x0 x1 x2 = true → g16_c7 x0 x1 x2 = true) (gd ((bif g16_c7 x0 x1 x2 then ieq (g16_c4 x0 d3) (kosF (List.take (List.length (first12 x0)) (List.drop (0 : Nat) (first12 x0))) (List.take (List.length (first12 x1)) (List.drop (0 : Nat) (first12 x1)))).1 else false) = true → (bif g16_c7 x0 x1 x2 then ieq (g16_c4 x0 d3) (kosF (List.take (List.length (first12 x0)) (List.drop (0 : Nat) (first12 x0))) (List.take (List.length (first12 x1)) (List.drop (0 : Nat) (first12 x1)))).1 else false) = true) (gd ((bif g16_c7 x0 x1 x2 then ieq (g16_c4 x0 d3) (kosF (List.take (List.length (first12 x0)) (List.drop (0 : Nat) (first12 x0))) (List.take (List.length (first12 x1)) (List.drop (0 : Nat) (first12 x1)))).1 else false) = true → (bif g16_c7 x0 x1 x2 then ieq (g16_c4 x0 d3) (kosF (List.take (List.length (first12 x0)) (List.drop (0 : Nat) (first12 x0))) (List.take (List.length (first12 x1)) (List.drop (0 : Nat) (first12 x1)))).1 else false) = true) (gd (g16_c8 x0 x1 x2 d3 = true → g16_c8 x0 x1 x2 d3 = true) (gd (g16_c8 x0 x1 x2 d3 = true → g16_c8 x0 x1 x2 d3 = true ∧ g16_c8 x0 x1 x2 d3 = true) (gd ((g16_c8 x0 x1 x2 d3 && (g16_c8 x0 x1 x2 d3 && ieq d3.2.1 d3.2.2.1)) = true → (g16_c8 x0 x1 x2 d3 && (g16_c8 x0 x1 x2 d3 && ieq d3.2.1 d3.2.2.1)) = true) (gd (g16_c8 x0 x1 x2 d3 = true → g16_c8 x0 x1 x2 d3 = true ∧ g16_c8 x0 x1 x2 d3 = true ∧ (ieq d3.2.1 d3.2.2.1 = true → (g16_c8 x0 x1 x2 d3 && (g16_c8 x0 x1 x2 d3 && ieq d3.2.1 d3.2.2.1)) = true)) (gd (g16_c8 x0 x1 x2 d3 = true → g16_c8 x0 x1 x2 d3 = true ∧ g16_c8 x0 x1 x2 d3 = true) (gd (g16_c8 x0 x1 x2 d3 = true → g16_c8 x0 x1 x2 d3 = true) (gd ((bif g16_c8 x0 x1 x2 d3 then g16_c9 x0 x1 d3 else false) = true → (bif g16_c8 x0 x1 x2 d3 then g16_c9 x0 x1 d3 else false) = true) (some (Lp.out ((bif bif g16_c8 x0 x1 x2 d3 then g16_c9 x0 x1 d3 else false then true else false, ()) : Bool × Unit)))))))))))))))))))))))))) (((↑(List.length (first12 x1)) : Int), (0 : Int), (0 : Int), false, (0 : Int), revI (sortL (first12 x1)), ()) : Int × Int × Int × Bool × Int × List Int × Unit))))))))))))))))))))
noncomputable def g16_sh : List LSh := LSh.mk (((15, TV.sl (0) (1) (0)) : Nat × TV) :: ((16, TV.v (Ty.int IntKind.i64)) : Nat × TV) :: ((17, TV.v (Ty.int IntKind.i64)) : Nat × TV) :: ((18, TV.v Ty.bool) : Nat × TV) :: ((80, TV.v (Ty.int IntKind.i64)) : Nat × TV) :: ([] : List (Nat × TV))) (TB.arr (Ty.int IntKind.i64) true :: ([] : List TB)) :: ([] : List LSh)

end Go.Schur

set_option linter.unusedVariables false
set_option linter.unusedSimpArgs false
namespace Go.Schur
open Go Go.Ab Go.Proofs

theorem first12_id {l : List Int} (h : l.length ≤ 12) : first12 l = l := List.take_of_length_le h

theorem goal20s : con20s.goal Try.prog (spS [con39s] []) g20s_sh [] lm30 := by
  have e : (∀ (l : List Int), True → g20s l = some (first12 l, ())) = (∀ (l : List Int), True → g20s l = some (first12 l, ())) := rfl
  have e : (∀ (l : List Int), g20s l = some (first12 l, ())) = con20s.goal Try.prog (spS [con39s] []) g20s_sh [] lm30 := by kernel_rfl
  rw [← e]
  intro l
  unfold g20s first12
  have h : (imin (l.length : Int) 12).toNat = min l.length 12 := by unfold imin; split <;> omega
  rw [h, gd_pos (by unfold imin; split <;> omega), gd_pos (by simp; omega), gd_pos rfl]
  have : l.take (min l.length 12) = l.take 12 := by
    rcases Nat.le_total l.length 12 with h | h
    · rw [Nat.min_eq_left h, List.take_length, List.take_of_length_le h]
    · rw [Nat.min_eq_right h]
  rw [this]
set_option maxRecDepth 100000 in
theorem ok20s : con20s.Ok Try.prog := SCon.of_goal mixed okN (okS ok39s okS0) con20s goal20s

theorem getD_rev {l : List Int} {i : Nat} (h : i < l.length) : l.reverse.getD i 0 = l.getD (l.length - 1 - i) 0 := by
  rw [List.getD_eq_getElem?_getD, List.getElem?_reverse h, ← List.getD_eq_getElem?_getD]
theorem ext_getD {a b : List Int} (hl : a.length = b.length) (h : ∀ j, j < b.length → a.getD j 0 = b.getD j 0) : a = b := by
  refine List.ext_getElem hl fun j h1 h2 => ?_
  have := h j h2
  rw [List.getD_eq_getElem?_getD, List.getD_eq_getElem?_getD, List.getElem?_eq_getElem h1, List.getElem?_eq_getElem h2] at this
  exact this
theorem goal59 : con59.goal Try.prog (spS [] []) g59_sh [] lm30 := by
  have e : (∀ (l : List Int), l.length ≤ 1000 → g59 l = some (revI l, ())) = con59.goal Try.prog (spS [] []) g59_sh [] lm30 := by kernel_rfl
  rw [← e]
  intro l hl
  unfold g59
  rw [gd_pos rfl]
  -- after i rounds: i first and i last ones are exchanged
  let st : Nat → List Int := fun i => (List.range l.length).map fun j => if j < i ∨ l.length ≤ j + i then l.getD (l.length - 1 - j) 0 else l.getD j 0
  have stl : ∀ i, (st i).length = l.length := fun i => by simp [st]
  have stg : ∀ i j, j < l.length → (st i).getD j 0 = if j < i ∨ l.length ≤ j + i then l.getD (l.length - 1 - j) 0 else l.getD j 0 := fun i j hj => by
    rw [List.getD_eq_getElem?_getD, List.getElem?_map, List.getElem?_range hj]; rfl
  have s0 : st 0 = l := by
    refine List.ext_getElem (stl 0) fun j h1 h2 => ?_
    have := stg 0 j h2
    rw [if_neg (by omega), List.getD_eq_getElem?_getD, List.getD_eq_getElem?_getD, List.getElem?_eq_getElem h1, List.getElem?_eq_getElem h2] at this
    simpa using this
  have key : ∀ (c i : Nat), c + 2 * i = l.length → whileO (fun (d1 : Int × Int × List Int × Unit) => bif ilt d1.1 d1.2.1 then gd ((0 : Int) ≤ d1.2.1 ∧ d1.2.1 < (↑(List.length d1.2.2.1) : Int)) (gd ((0 : Nat) + Int.toNat d1.2.1 < List.length d1.2.2.1) (gd ((0 : Int) ≤ d1.1 ∧ d1.1 < (↑(List.length d1.2.2.1) : Int)) (gd ((0 : Nat) + Int.toNat d1.1 < List.length d1.2.2.1) (gd ((0 : Int) ≤ d1.1 ∧ d1.1 < (↑(List.length d1.2.2.1) : Int)) (gd ((0 : Nat) + Int.toNat d1.1 < List.length d1.2.2.1) (gd ((0 : Int) ≤ d1.2.1 ∧ d1.2.1 < (↑(List.length d1.2.2.1) : Int)) (gd ((0 : Nat) + Int.toNat d1.2.1 < List.length (List.set d1.2.2.1 ((0 : Nat) + Int.toNat d1.1) (List.getD d1.2.2.1 ((0 : Nat) + Int.toNat d1.2.1) (0 : Int)))) (gd (List.length d1.2.2.1 = List.length (List.set (List.set d1.2.2.1 ((0 : Nat) + Int.toNat d1.1) (List.getD d1.2.2.1 ((0 : Nat) + Int.toNat d1.2.1) (0 : Int))) ((0 : Nat) + Int.toNat d1.2.1) (List.getD d1.2.2.1 ((0 : Nat) + Int.toNat d1.1) (0 : Int)))) (some (Lp.go ((wr IntKind.i64 (d1.1 + (1 : Int)), wr IntKind.i64 (d1.2.1 - (1 : Int)), List.set (List.set d1.2.2.1 ((0 : Nat) + Int.toNat d1.1) (List.getD d1.2.2.1 ((0 : Nat) + Int.toNat d1.2.1) (0 : Int))) ((0 : Nat) + Int.toNat d1.2.1) (List.getD d1.2.2.1 ((0 : Nat) + Int.toNat d1.1) (0 : Int)), ()) : Int × Int × List Int × Unit))))))))))) else some (Lp.out ((d1.2.2.1, ()) : List Int × Unit))) ((i : Int), ((l.length : Int) - 1 - i), st i, ()) = some (revI l, ()) := by
    intro c
    induction c using Nat.strongRecOn with
    | ind c ih =>
      intro i hi
      by_cases hc : c ≤ 1
      · refine whileO_out ?_
        simp only [ilt_false.2 (show (l.length : Int) - 1 - i ≤ (i : Int) by omega), cond_false]
        congr 3
        refine List.ext_getElem (by simp [revI, stl]) fun j h1 h2 => ?_
        rw [stl] at h1
        have e1 := stg i j h1
        have e2 : (revI l).getD j 0 = l.getD (l.length - 1 - j) 0 := getD_rev h1
        have e3 : (st i).getD j 0 = (revI l).getD j 0 := by
          rw [e1, e2]
          split
          · rfl
          · congr 1; omega
        rw [List.getD_eq_getElem?_getD, List.getD_eq_getElem?_getD, List.getElem?_eq_getElem (by rw [stl]; exact h1), List.getElem?_eq_getElem h2] at e3
        simpa using e3
      · have hlt : ilt (i : Int) ((l.length : Int) - 1 - i) = true := ilt_iff.2 (by omega)
        have ej : ((l.length : Int) - 1 - i) = ((l.length - 1 - i : Nat) : Int) := by omega
        refine (whileO_go (s' := (((i + 1 : Nat) : Int), ((l.length : Int) - 1 - ((i + 1 : Nat) : Int)), st (i + 1), ())) ?_).trans (ih (c - 2) (by omega) (i + 1) (by omega))
        simp only [hlt, cond_true]
        rw [ej]
        simp only [Int.toNat_natCast, Nat.zero_add, stl, List.length_set]
        have w1 : wr .i64 ((i : Int) + 1) = (i + 1 : Nat) := (wr_id (by omega)).trans (by omega)
        have w2 : wr .i64 (((l.length - 1 - i : Nat) : Int) - 1) = (l.length : Int) - 1 - ((i + 1 : Nat) : Int) := (wr_id (by omega)).trans (by omega)
        rw [gd_pos ⟨by omega, by omega⟩, gd_pos (by omega), gd_pos ⟨by omega, by omega⟩, gd_pos (by omega), gd_pos ⟨by omega, by omega⟩, gd_pos (by omega), gd_pos ⟨by omega, by omega⟩, gd_pos (by omega), gd_true, w1, w2]
        refine congrArg (fun x => some (Lp.go ((((i + 1 : Nat) : Int), (l.length : Int) - 1 - ((i + 1 : Nat) : Int), x, ()) : Int × Int × List Int × Unit))) ?_
        refine ext_getD (by rw [List.length_set, List.length_set, stl, stl]) fun j h2 => ?_
        have hj : j < l.length := by rw [stl] at h2; exact h2
        have e1 := stg (i + 1) j hj
        have e2 := stg i j hj
        have e3 := stg i (l.length - 1 - i) (by omega)
        have e4 := stg i i (by omega)
        rw [if_neg (by omega)] at e3 e4
        have e5 : ((st i).set i ((st i).getD (l.length - 1 - i) 0)).set (l.length - 1 - i) ((st i).getD i 0) = ((st i).set i (l.getD (l.length - 1 - i) 0)).set (l.length - 1 - i) (l.getD i 0) := by rw [e3, e4]
        have e6 : (((st i).set i (l.getD (l.length - 1 - i) 0)).set (l.length - 1 - i) (l.getD i 0)).getD j 0 = (st (i + 1)).getD j 0 := by
          rw [e1]
          rw [List.getD_eq_getElem?_getD, List.getElem?_set]
          by_cases k1 : l.length - 1 - i = j
          · rw [if_pos k1, if_pos (by simp [stl]; omega), if_pos (by omega)]
            show l.getD i 0 = _
            congr 1; omega
          · rw [if_neg k1, List.getElem?_set]
            by_cases k2 : i = j
            · rw [if_pos k2, if_pos (by rw [stl]; omega), if_pos (by omega)]
              show l.getD (l.length - 1 - i) 0 = _
              congr 1; omega
            · rw [if_neg k2, ← List.getD_eq_getElem?_getD, e2]
              by_cases k3 : j < i ∨ l.length ≤ j + i
              · rw [if_pos k3, if_pos (by omega)]
              · rw [if_neg k3, if_neg (by omega)]
        rw [← e5] at e6
        exact e6
  have h0 := key l.length 0 (by omega)
  have w0 : wr .i64 ((l.length : Int) - 1) = (l.length : Int) - 1 - ((0 : Nat) : Int) := (wr_id (by omega)).trans (by omega)
  rw [w0]
  rw [s0] at h0
  exact h0
set_option maxRecDepth 100000 in
theorem ok59 : con59.Ok Try.prog := SCon.of_goal mixed okN okS0 con59 goal59
end Go.Schur

set_option linter.unusedVariables false
set_option linter.unusedSimpArgs false
namespace Go.Schur
open Go Go.Ab Go.Proofs

def domB (p μ : List Nat) : Bool := (List.range 8).all fun j => Nat.ble (μ.take (j + 1)).sum (p.take (j + 1)).sum
set_option maxRecDepth 100000 in
theorem kR_dom : ∀ n ∈ List.range 9, ∀ p ∈ P n, ∀ μ ∈ P n, Nat.ble 1 (kR μ p) = domB p μ := by decide +kernel
set_option maxRecDepth 100000 in
theorem kR_self : ∀ p ∈ allP, kR p p = 1 := by decide +kernel
theorem less_zero : ∀ p ∈ allP, less 0 p = [p] := by decide +kernel
theorem kR_drop0 {p m : List Nat} (hp : p ∈ allP) : kR (0 :: m) p = kR m p := by
  have := kR_less hp (k := 0) (by omega) (m := m)
  rw [less_zero p hp, sL_cons, sL_nil] at this
  omega
theorem kR_zerosm {p m : List Nat} (hp : p ∈ allP) : ∀ z, kR (List.replicate z 0 ++ m) p = kR m p
  | 0 => by simp
  | z + 1 => by rw [List.replicate_succ, List.cons_append, kR_drop0 hp, kR_zerosm hp z]
theorem sum_zeros {z : Nat} : (List.replicate z 0).sum = 0 := by simp
/-- A content that falls. -/
theorem kR_fall {n : Nat} {p f : List Nat} (hn : n ≤ 8) (hp : p ∈ P n) (hf : Dec f) (hs : f.sum = n) : (0 < kR f p ↔ ∀ j, (f.take (j + 1)).sum ≤ (p.take (j + 1)).sum) := by
  obtain ⟨z, hz⟩ := strip_dec hf
  have hall : p ∈ allP := allP_iff.2 ⟨n, hn, hp⟩
  have hsum : (strip f).sum = n := by rw [hz] at hs; simpa using hs
  have hpos : ∀ x ∈ strip f, 1 ≤ x := fun x hx => by
    have := (List.mem_filter.1 hx).2
    rcases Nat.eq_zero_or_pos x with h | h
    · subst h; simp at this
    · exact h
  have hd : Dec (strip f) := fun i => by
    by_cases hi : i + 1 < (strip f).length
    · have := hf i
      have e : ∀ k, k < (strip f).length → f.getD k 0 = (strip f).getD k 0 := fun k hk => by
        have := getD_left (U := List.replicate z 0) (d := 0) hk
        rwa [← hz] at this
      rw [e _ hi, e _ (by omega)] at this
      exact this
    · rw [getD_out (by omega)]; omega
  have hm : strip f ∈ P n := by
    unfold P
    refine mem_parts hpos hd ?_ hsum (Nat.le_refl _)
    cases h : strip f with
    | nil => simp
    | cons a t => rw [h] at hsum; simp only [List.sum_cons] at hsum; simp only [List.headD_cons]; omega
  have hk : kR f p = kR (strip f) p := by
    conv => lhs; rw [hz]
    rw [kR_perm (List.perm_append_comm) hn hp (by rw [← hz]; exact hs), kR_zerosm hall]
  have ht : ∀ j, (f.take (j + 1)).sum = ((strip f).take (j + 1)).sum := fun j => by
    conv => lhs; rw [hz]
    rw [List.take_append, List.sum_append, List.take_replicate, sum_zeros]; rfl
  have h1 := kR_dom n (List.mem_range.2 (by omega)) p hp (strip f) hm
  have hlen : ∀ {l : List Nat}, (∀ x ∈ l, 1 ≤ x) → l.length ≤ l.sum := by
    intro l
    induction l with
    | nil => intro _; simp
    | cons a l ih => intro h; have := ih (fun x hx => h x (by simp [hx])); have := h a (by simp); simp only [List.length_cons, List.sum_cons]; omega
  have hp1 : ∀ x ∈ p, 1 ≤ x := by
    obtain ⟨p', _, e, _, h, _⟩ := shape_allP (shape_P hn hp)
    have := congrArg (List.map Int.toNat) e
    rw [toNat_toI, toNat_toI] at this
    rw [this]; exact h
  have hl1 := hlen hpos
  have hl2 := hlen hp1
  have hps := sum_P hn hp
  rw [hk]
  constructor
  · intro hk1 j
    rw [ht]
    have : domB p (strip f) = true := by rw [← h1, Nat.ble_eq]; exact hk1
    by_cases hj : j < 8
    · exact Nat.le_of_ble_eq_true (List.all_eq_true.1 this j (List.mem_range.2 hj))
    · rw [List.take_of_length_le (by omega), List.take_of_length_le (by omega)]; omega
  · intro h
    have : domB p (strip f) = true := List.all_eq_true.2 fun j _ => by rw [Nat.ble_eq, ← ht]; exact h j
    rw [← h1] at this
    exact Nat.le_of_ble_eq_true this

/-- The numbers, falling. -/
theorem fall_of {q : List Nat} : ∃ f : List Nat, revI (sortL (toI q)) = toI f ∧ f.Perm q ∧ Dec f := by
  have hp : (revI (sortL (toI q))).Perm (toI q) := (List.reverse_perm _).trans sortL_perm
  have h0 : ∀ x ∈ revI (sortL (toI q)), 0 ≤ x := fun x hx => by
    obtain ⟨n, _, rfl⟩ := List.mem_map.1 (hp.mem_iff.1 hx); omega
  refine ⟨(revI (sortL (toI q))).map Int.toNat, (toI_toNat h0).symm, ?_, ?_⟩
  · have := hp.map Int.toNat
    rwa [toNat_toI] at this
  · have hpw : (revI (sortL (toI q))).Pairwise (fun a b => b ≤ a) := List.pairwise_reverse.2 sortL_pw
    have hpw := hpw.map (S := fun a b => b ≤ a) Int.toNat (fun a b h => by omega)
    generalize (revI (sortL (toI q))).map Int.toNat = f at hpw
    intro i
    by_cases hi : i + 1 < f.length
    · have := List.pairwise_iff_getElem.1 hpw i (i + 1) (by omega) hi (by omega)
      rw [List.getD_eq_getElem?_getD, List.getD_eq_getElem?_getD, List.getElem?_eq_getElem hi, List.getElem?_eq_getElem (show i < f.length by omega)]
      exact this
    · rw [getD_out (by omega)]; omega
end Go.Schur

set_option linter.unusedVariables false
set_option linter.unusedSimpArgs false
namespace Go.Schur
open Go Go.Ab Go.Proofs

def psum (l : List Nat) (i : Nat) : Nat := (l.take i).sum
def lessB (p f : List Nat) : Nat → Bool
  | 0 => false
  | i + 1 => lessB p f i || decide (psum p (i + 1) < psum f (i + 1))
theorem lessB_iff {p f : List Nat} : ∀ {i : Nat}, lessB p f i = true ↔ ∃ j, j < i ∧ psum p (j + 1) < psum f (j + 1)
  | 0 => by simp [lessB]
  | i + 1 => by
    rw [lessB, Bool.or_eq_true, lessB_iff (i := i), decide_eq_true_eq]
    constructor
    · rintro (⟨j, h1, h2⟩ | h)
      · exact ⟨j, by omega, h2⟩
      · exact ⟨i, by omega, h⟩
    · rintro ⟨j, h1, h2⟩
      by_cases hj : j = i
      · subst hj; exact .inr h2
      · exact .inl ⟨j, by omega, h2⟩
theorem psum_succ {l : List Nat} {i : Nat} : psum l (i + 1) = psum l i + l.getD i 0 := by
  unfold psum
  rcases Nat.lt_or_ge i l.length with h | h
  · rw [List.take_succ_eq_append_getElem h, List.sum_append, List.getD_eq_getElem?_getD, List.getElem?_eq_getElem h]; simp
  · rw [List.take_of_length_le (by omega), List.take_of_length_le h, getD_out h]; rfl
theorem psum_le {l : List Nat} {i : Nat} : psum l i ≤ l.sum := by
  unfold psum
  conv => rhs; rw [← List.take_append_drop i l, List.sum_append]
  omega
theorem psum_all {l : List Nat} {i : Nat} (h : l.length ≤ i) : psum l i = l.sum := by unfold psum; rw [List.take_of_length_le h]
theorem wru_nn {n : Int} : 0 ≤ wr .u64 n := by show 0 ≤ IntKind.u64.wrap n; rw [IntKind.wrap_u64]; omega
theorem wru_id {n : Int} (h : 0 ≤ n ∧ n ≤ 1000) : wr .u64 n = n := by show IntKind.u64.wrap n = n; rw [IntKind.wrap_u64]; omega

theorem goal16 : con16.goal Try.prog (spS [con20s, sortCon 61 true, con59] [con21, con24]) g16_sh [113] lm30 := by
  have e : (∀ (l m : List Int) (b : Int), (small l ∧ small m) → g16 l m b = some (true, ())) = con16.goal Try.prog (spS [con20s, sortCon 61 true, con59] [con21, con24]) g16_sh [113] lm30 := by kernel_rfl
  rw [← e]
  rintro l m b ⟨hl, hm⟩
  unfold g16
  have f12 : ∀ l : List Int, (first12 l).length ≤ 12 := fun l => by simp [first12]; omega
  simp only [List.take_length, List.drop_zero, Nat.zero_add]
  rw [gd_pos (Nat.le_refl _), gd_pos (Nat.le_refl _), gd_pos ⟨Nat.le_trans (f12 _) (by omega), Nat.le_trans (f12 _) (by omega)⟩]
  by_cases hv : shapeB l = true ∧ contB m = true
  case neg =>
    have e2 : kosF (first12 l) (first12 m) = (0, 2, ()) := by
      unfold kosF first12; rw [shape_take, cont_take, if_neg hv]
    rw [e2]
    simp [gd_true, ieq]
  case pos =>
    obtain ⟨hs, hc⟩ := hv
    obtain ⟨p, hall, rfl, hp8, hp1, hps⟩ := shape_allP hs
    obtain ⟨q, rfl, hq8, hqs⟩ := cont_toI hc
    obtain ⟨n, hn, hp⟩ := allP_iff.1 hall
    have hpn := sum_P hn hp
    have lp : (toI p).length = p.length := by simp [toI]
    have lq : (toI q).length = q.length := by simp [toI]
    have hpl := hp8.len
    have t1 : first12 (toI p) = toI p := first12_id (by omega)
    have t2 : first12 (toI q) = toI q := first12_id (by omega)
    have hK := kosF_P hn hp hq8 hqs
    generalize hk0 : wr IntKind.i64 (Int.tmod (wr IntKind.u64 b) (wr IntKind.u64 (imax (↑(List.length (toI q)) : Int) (1 : Int)))) = k0
    have hmax : imax (↑(List.length (toI q)) : Int) (1 : Int) = max (q.length : Int) 1 := by unfold imax; rw [lq]; split <;> omega
    have hw : wr IntKind.u64 (imax (↑(List.length (toI q)) : Int) (1 : Int)) = max (q.length : Int) 1 := by rw [hmax]; exact wru_id (by omega)
    have hk : 0 ≤ k0 ∧ k0 ≤ (q.length : Int) := by
      have h1 := Int.tmod_nonneg (max (q.length : Int) 1) (wru_nn (n := b))
      have h2 := Int.tmod_lt_of_pos (wr IntKind.u64 b) (show 0 < max (q.length : Int) 1 by omega)
      rw [hw, wr_id (by omega)] at hk0
      omega
    obtain ⟨k, rfl⟩ : ∃ k : Nat, k0 = (k : Int) := ⟨k0.toNat, by omega⟩
    have t3 : first12 (List.drop k (toI q)) = toI (q.drop k) := by rw [first12_id (by simp [toI]; omega)]; simp [toI, List.map_drop]
    have t4 : first12 (List.take k (toI q)) = toI (q.take k) := by rw [first12_id (by simp [toI]; omega)]; simp [toI, List.map_take]
    have tl : ∀ l : List Nat, (toI l).length = l.length := fun l => by simp [toI]
    have ta : ∀ a b : List Nat, toI a ++ toI b = toI (a ++ b) := fun a b => by simp [toI]
    have hrot : (q.drop k ++ q.take k).Perm q := (List.perm_append_comm).trans (by rw [List.take_append_drop])
    have hrl : (q.drop k ++ q.take k).length = q.length := hrot.length_eq
    have hrs : (q.drop k ++ q.take k).sum = q.sum := hrot.sum_nat
    obtain ⟨f, hf, hfp, hfd⟩ := fall_of (q := q)
    have hfl : f.length = q.length := hfp.length_eq
    have hfs : f.sum = q.sum := hfp.sum_nat
    have hKf := kosF_P (q := f) hn hp (by omega) (by omega)
    have hKr := kosF_P (q := q.drop k ++ q.take k) hn hp (by omega) (by omega)
    have hKp := kosF_P (q := p) hn hp hpl hps
    rw [hpn, if_pos rfl, kR_self p hall] at hKp
    have hKf' : kosF (toI p) (toI f) = kosF (toI p) (toI q) := by
      rw [hKf, hK, hfs]
      by_cases h : n = q.sum
      · rw [if_pos h, if_pos h, kR_perm hfp hn hp (by omega)]
      · rw [if_neg h, if_neg h]
    have hKr' : kosF (toI p) (toI (q.drop k ++ q.take k)) = kosF (toI p) (toI q) := by
      rw [hKr, hK, hrs]
      by_cases h : n = q.sum
      · rw [if_pos h, if_pos h, kR_perm hrot hn hp (by omega)]
      · rw [if_neg h, if_neg h]
    generalize hKv : (if n = q.sum then kR q p else 0) = K at hK
    have hsl : (sortL (toI q)).length = q.length := by rw [sortL_len, lq]
    have hk1 : wr IntKind.i64 (Int.tmod (wr IntKind.u64 b) (wr IntKind.u64 (imax (↑q.length : Int) 1))) = (k : Int) := by rw [lq] at hk0; exact hk0
    unfold g16_c8 g16_c9 g16_c7 g16_c6 g16_c5 g16_c4 g16_c1 g16_c0
    simp only [hk0, hk1, Int.toNat_natCast, t1, t2, t3, t4, tl, ta, List.take_length, List.drop_zero, Nat.zero_add, hK, hf]
    have hr2 : List.take ((q.drop k).length + (q.take k).length) (toI (q.drop k ++ q.take k)) = toI (q.drop k ++ q.take k) := List.take_of_length_le (by simp [toI])
    simp only [hr2, hKr', hK, hKp]
    have hnz : wr IntKind.u64 (imax (↑q.length : Int) 1) ≠ 0 := by
      rw [lq] at hw; rw [hw]; omega
    have z0 : (ieq (0 : Int) 0) = true := by decide
    have z1 : (ieq ((1 : Nat) : Int) 1) = true := by decide
    have zk : ieq (K : Int) (K : Int) = true := ieq_iff.2 rfl
    simp only [z0, z1, zk, cond_true, Bool.not_true, cond_false, hsl]
    have hN : imax (↑p.length : Int) (↑q.length : Int) = (max p.length q.length : Nat) := by unfold imax; split <;> omega
    have hps' : p.sum = n := hpn
    -- the end
    have hfin : beqB (ilt 0 (K : Int)) (bif ieq ((psum p (max p.length q.length) : Nat) : Int) ((psum f (max p.length q.length) : Nat) : Int) then !lessB p f (max p.length q.length) else false) = true := by
      rw [beqB_iff, psum_all (by omega), psum_all (by omega), hfs, Bool.eq_iff_iff, ilt_iff]
      by_cases hnq : n = q.sum
      · rw [if_pos hnq] at hKv
        subst hKv
        rw [ieq_iff.2 (show ((p.sum : Nat) : Int) = (q.sum : Nat) by omega), cond_true, Bool.not_eq_true', Bool.eq_false_iff, Ne, lessB_iff]
        have h1 := kR_fall hn hp hfd (by omega)
        rw [← kR_perm hfp.symm hn hp (by omega)] at h1
        constructor
        · rintro h ⟨j, _, h2⟩
          have := h1.1 (by omega) j
          unfold psum at h2; omega
        · intro h
          have : 0 < kR q p := h1.2 fun j => by
            by_cases hj : j < max p.length q.length
            · apply Classical.byContradiction
              intro hc
              exact h ⟨j, hj, by unfold psum; omega⟩
            · have e1 := psum_all (l := p) (i := j + 1) (by omega)
              have e2 := psum_all (l := f) (i := j + 1) (by omega)
              unfold psum at e1 e2
              omega
          omega
      · rw [if_neg hnq] at hKv
        subst hKv
        rw [ieq_false.2 (show ((p.sum : Nat) : Int) ≠ (q.sum : Nat) by omega), cond_false]
        simp
    have htf : List.take q.length (toI f) = toI f := List.take_of_length_le (by rw [tl]; omega)
    have ttl : ∀ l : List Nat, List.take l.length (toI l) = toI l := fun l => List.take_of_length_le (by rw [tl]; omega)
    have htq : List.take q.length (toI q) = toI q := List.take_of_length_le (by rw [tl]; omega)
    have htp : List.take p.length (toI p) = toI p := List.take_of_length_le (by rw [tl]; omega)
    rw [gd_pos hnz, gd_pos ⟨by omega, by omega⟩, gd_pos ⟨by omega, by omega⟩, gd_pos (Nat.le_refl _), gd_pos (Nat.le_refl _), gd_pos (by simp; omega), gd_pos (Nat.le_refl _), gd_pos (by simp), gd_pos ⟨by omega, by rw [tl]; omega⟩, gd_pos (Nat.le_refl _), gd_pos (Nat.le_refl _), gd_pos ⟨by omega, by omega⟩, gd_true, gd_pos (by omega), gd_true, gd_pos (by omega)]
    refine whileO_at (fun i => ((q.length : Int), ((psum p i : Nat) : Int), ((psum f i : Nat) : Int), lessB p f i, ((i : Nat) : Int), toI f, ())) (max p.length q.length) _ rfl (fun i hi => ?_) ?_
    · have b1 := psum_le (l := p) (i := i + 1)
      have b2 := psum_le (l := f) (i := i + 1)
      have e1 := psum_succ (l := p) (i := i)
      have e2 := psum_succ (l := f) (i := i)
      have w1 : wr .i64 ((i : Int) + 1) = (i + 1 : Nat) := (wr_id (by omega)).trans (by omega)
      have w2 : wr .i64 (((psum p i : Nat) : Int) + ((p.getD i 0 : Nat) : Int)) = (psum p (i + 1) : Nat) := (wr_id (by omega)).trans (by omega)
      have w3 : wr .i64 (((psum f i : Nat) : Int) + ((f.getD i 0 : Nat) : Int)) = (psum f (i + 1) : Nat) := (wr_id (by omega)).trans (by omega)
      have hless : ∀ c, (bif lessB p f i then true else ilt ((psum p (i + 1) : Nat) : Int) ((psum f (i + 1) : Nat) : Int)) = c → lessB p f (i + 1) = c := fun c hc => by
        rw [← hc, lessB]
        cases lessB p f i
        · simp [ilt]
        · rfl
      unfold g16_c2 g16_c3
      simp only [hN, ilt_iff.2 (show (i : Int) < ((max p.length q.length : Nat) : Int) by omega), cond_true, Int.toNat_natCast, toI_get, Nat.zero_add, w1, w2, w3, tl]
      by_cases h1 : i < p.length
      · rw [ilt_iff.2 (show (i : Int) < (p.length : Int) by omega), cond_true, gd_pos ⟨by omega, by omega⟩]
        by_cases h2 : i < q.length
        · rw [ilt_iff.2 (show (i : Int) < (q.length : Int) by omega), cond_true, gd_pos ⟨by omega, by omega⟩, gd_pos (by omega), hless _ rfl]
          simp [gd_true]
        · have e3 : f.getD i 0 = 0 := getD_out (by omega)
          have e4 : psum f (i + 1) = psum f i := by omega
          rw [ilt_false.2 (show (q.length : Int) ≤ (i : Int) by omega), cond_false, hless _ rfl, e4]
          simp [gd_true]
      · have e3 : p.getD i 0 = 0 := getD_out (by omega)
        have e4 : psum p (i + 1) = psum p i := by omega
        rw [ilt_false.2 (show (p.length : Int) ≤ (i : Int) by omega), cond_false]
        by_cases h2 : i < q.length
        · rw [ilt_iff.2 (show (i : Int) < (q.length : Int) by omega), cond_true, gd_pos ⟨by omega, by omega⟩, gd_pos (by omega), hless _ rfl, e4]
          simp [gd_true]
        · omega
    · simp only [hN, ilt_false.2 (Int.le_refl _), cond_false, Int.toNat_natCast, Nat.zero_add, htf, htp, htq, ttl, ta, hKf', hr2, hKr', hKp, hK, tl, zk, z0, z1, cond_true, hfin, imp_self, and_self, gd_true]
      rw [gd_pos (by omega), gd_pos (by omega), gd_pos (by omega), gd_pos (by omega), gd_pos (Nat.le_refl _), gd_pos ⟨by omega, by omega⟩]
      exact gd_pos (fun _ => ⟨trivial, trivial, fun h => by rw [h]; rfl⟩)
set_option maxRecDepth 100000 in
theorem ok16law : con16.Ok Try.prog := Con.of_goalS mixed (okC ok21 (okC ok24 okN)) (okS ok20s (okS (ok61 true) (okS ok59 okS0))) con16 goal16
end Go.Schur
