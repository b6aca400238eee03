/- Best: contracts of the law. -/
import Derived.Test.YtibpopddoggnkaaXT
set_option linter.unusedVariables false
set_option linter.unusedSimpArgs false
namespace Go.Signs
open Go Go.Ab Go.Proofs

end Go.Signs

set_option linter.unusedVariables false
set_option linter.unusedSimpArgs false
namespace Go.Signs
open Go Go.Ab Go.Proofs

section
variable {l : List Int} {r c : Int} {m : Int}
/-! ### Remainders by 2 -/
/-! ### Rows that are balanced -/
end

end Go.Signs

set_option linter.unusedVariables false
set_option linter.unusedSimpArgs false
namespace Go.Signs
open Go Go.Ab Go.Proofs

end Go.Signs

set_option linter.unusedVariables false
set_option linter.unusedSimpArgs false
namespace Go.Signs
open Go Go.Ab Go.Proofs

abbrev A4 : Ty := .prod I64 (.prod I64 (.prod I64 (.prod I64 .unit)))
abbrev Qt : Ty := .prod I64 (.prod A4 .unit)
abbrev A4D := Int × Int × Int × Int × Unit
abbrev QtD := Int × A4D × Unit
def is135 (m : Int) : Bool := [1, 3, 5].contains m
/-- A sequence of m signs. -/
def seqB (m s : Int) : Bool := decide (0 ≤ s) && decide (s < 2 ^ m.toNat) && (List.range (m.toNat - 1)).all fun (i : Nat) => (s.toNat.testBit (i + 1) == s.toNat.testBit (m.toNat - (i + 1)))
noncomputable def con92 : Con := mkC 92 [.d I64, .d (.ptr Qt)] [.bool] (fun (s : Int) (q : QtD) => [is135 q.1 = true]) (fun (s : Int) (q : QtD) => (!seqB q.1 s, ()))
noncomputable def g92 (x0 : Int) (x1 : Int × (Int × Int × Int × Int × Unit) × Unit) : Option (Bool × Unit) := gd ((!ilt x0 (0 : Int)) = true → (!ilt x0 (0 : Int)) = true) (gd ((!ilt x0 (0 : Int)) = true → (!ilt x0 (0 : Int)) = true ∧ (0 : Int) ≤ x1.1) (gd ((!ilt x0 (0 : Int)) = true → (!ilt x0 (0 : Int)) = true ∧ (!ilt x0 (0 : Int)) = true) (gd (ilt x0 (0 : Int) = false → (!ilt x0 (0 : Int)) = true) (bif bif ilt x0 (0 : Int) then true else ile (ishl IntKind.i64 (1 : Int) x1.1) x0 then some ((true, ()) : Bool × Unit) else whileO (fun (d2 : Int × Unit) => bif ilt d2.1 x1.1 then gd ((0 : Int) ≤ d2.1) (gd ((0 : Int) ≤ wr IntKind.i64 (x1.1 - d2.1)) (bif !ieq (iand IntKind.i64 (ishr IntKind.i64 x0 d2.1) (1 : Int)) (iand IntKind.i64 (ishr IntKind.i64 x0 (wr IntKind.i64 (x1.1 - d2.1))) (1 : Int)) then some (Lp.out ((true, ()) : Bool × Unit)) else some (Lp.go ((wr IntKind.i64 (d2.1 + (1 : Int)), ()) : Int × Unit)))) else some (Lp.out ((false, ()) : Bool × Unit))) (((1 : Int), ()) : Int × Unit)))))
noncomputable def g92_sh : List LSh := LSh.mk (((4, TV.v (Ty.int IntKind.i64)) : Nat × TV) :: ([] : List (Nat × TV))) ([] : List TB) :: ([] : List LSh)
def ixSeq (m : Int) : List Int → Int → Int
  | [], _ => -1
  | x :: l, i => if seqB m x = true then ixSeq m l (i + 1) else i
noncomputable def con110 : Con := mkC 110 [.d LI, .fn 92 [.ptr Qt]] [I64] (fun (l : List Int) (q : QtD) => [small l, is135 q.1 = true]) (fun (l : List Int) (q : QtD) => (ixSeq q.1 l 0, ()))
noncomputable def g110 (x0 : List Int) (x1 : Int × (Int × Int × Int × Int × Unit) × Unit) : Option (Int × Unit) := whileO (fun (d2 : (Int × (Int × Int × Int × Int × Unit) × Unit) × Int × Unit) => bif ilt d2.2.1 (↑(List.length x0) : Int) then gd ((0 : Int) ≤ d2.2.1 ∧ d2.2.1 < (↑(List.length x0) : Int)) (gd (is135 d2.1.1 = true) (bif !seqB d2.1.1 (List.getD x0 (Int.toNat d2.2.1) (0 : Int)) then some (Lp.out ((d2.2.1, ()) : Int × Unit)) else some (Lp.go ((d2.1, wr IntKind.i64 (d2.2.1 + (1 : Int)), ()) : (Int × (Int × Int × Int × Int × Unit) × Unit) × Int × Unit)))) else some (Lp.out (((-1 : Int), ()) : Int × Unit))) ((x1, (0 : Int), ()) : (Int × (Int × Int × Int × Int × Unit) × Unit) × Int × Unit)
noncomputable def g110_sh : List LSh := LSh.mk (((1, TV.fn (92) (TV.cons (TV.v (Ty.ptr (Ty.prod (Ty.int IntKind.i64) (Ty.prod (Ty.prod (Ty.int IntKind.i64) (Ty.prod (Ty.int IntKind.i64) (Ty.prod (Ty.int IntKind.i64) (Ty.prod (Ty.int IntKind.i64) Ty.unit)))) Ty.unit)))) TV.nil)) : Nat × TV) :: ((8, TV.v (Ty.int IntKind.i64)) : Nat × TV) :: ([] : List (Nat × TV))) ([] : List TB) :: ([] : List LSh)
noncomputable def con91 : Con := mkC 91 [.d LI, .fn 92 [.ptr Qt]] [.bool] (fun (l : List Int) (q : QtD) => [small l, is135 q.1 = true]) (fun (l : List Int) (q : QtD) => (!l.all (seqB q.1), ()))
noncomputable def g91 (x0 : List Int) (x1 : Int × (Int × Int × Int × Int × Unit) × Unit) : Option (Bool × Unit) := gd (small x0) (gd (is135 x1.1 = true) (some ((ile (0 : Int) (ixSeq x1.1 x0 (0 : Int)), ()) : Bool × Unit)))
noncomputable def g91_sh : List LSh := ([] : List LSh)
def l4 (s : A4D) : List Int := [s.1, s.2.1, s.2.2.1, s.2.2.2.1]
def valQ (q : QtD) : Bool := is135 q.1 && (l4 q.2.1).all (seqB q.1)
noncomputable def con73 : Con := mkC 73 [.d Qt] [.bool] (fun (q : QtD) => []) (fun (q : QtD) => (valQ q, ()))
noncomputable def g73 (x0 : Int × (Int × Int × Int × Int × Unit) × Unit) : Option (Bool × Unit) := gd ((0 : Nat) < (5 : Nat)) (gd ((!ieq x0.1 (1 : Int)) = true → (!ieq x0.1 (1 : Int)) = true ∧ (0 : Nat) < (5 : Nat)) (gd ((!ieq x0.1 (1 : Int)) = true → (!ieq x0.1 (1 : Int)) = true) (gd ((!ieq x0.1 (1 : Int)) = true → (!ieq x0.1 (1 : Int)) = true) (gd ((bif !ieq x0.1 (1 : Int) then !ieq x0.1 (3 : Int) else false) = true → (bif !ieq x0.1 (1 : Int) then !ieq x0.1 (3 : Int) else false) = true ∧ (0 : Nat) < (5 : Nat)) (gd ((bif !ieq x0.1 (1 : Int) then !ieq x0.1 (3 : Int) else false) = true → (bif !ieq x0.1 (1 : Int) then !ieq x0.1 (3 : Int) else false) = true) (gd ((bif !ieq x0.1 (1 : Int) then !ieq x0.1 (3 : Int) else false) = true → (bif !ieq x0.1 (1 : Int) then !ieq x0.1 (3 : Int) else false) = true) (bif bif bif !ieq x0.1 (1 : Int) then !ieq x0.1 (3 : Int) else false then !ieq x0.1 (5 : Int) else false then some ((false, ()) : Bool × Unit) else gd ((5 : Nat) ≤ (5 : Nat)) (gd ((5 : Nat) ≤ (5 : Nat)) (gd (small (x0.2.1.1 :: x0.2.1.2.1 :: x0.2.1.2.2.1 :: x0.2.1.2.2.2.1 :: ([] : List Int))) (gd (is135 x0.1 = true) (some ((!!(seqB x0.1 x0.2.1.1 && (seqB x0.1 x0.2.1.2.1 && (seqB x0.1 x0.2.1.2.2.1 && (seqB x0.1 x0.2.1.2.2.2.1 && true)))), ()) : Bool × Unit))))))))))))
noncomputable def g73_sh : List LSh := ([] : List LSh)
def sgT (s : Int) (i : Int) : Int := if s.toNat.testBit i.toNat = true then -1 else 1
def sK (s : A4D) (k : Int) : Int := (l4 s).getD k.toNat 0
def sgnF (q : QtD) (k i : Int) : Int := sgT (sK q.2.1 k) (i % q.1)
noncomputable def con77 : Con := mkC 77 [.d Qt, .d I64, .d I64] [I64] (fun (q : QtD) (k i : Int) => [valQ q = true, 0 ≤ k, k < 4, -5 ≤ i, i ≤ 10]) (fun (q : QtD) (k i : Int) => (sgnF q k i, ()))
noncomputable def g77 (x0 : Int × (Int × Int × Int × Int × Unit) × Unit) (x1 x2 : Int) : Option (Int × Unit) := gd ((0 : Int) ≤ x1 ∧ x1 < (4 : Int)) (gd ((1 : Nat) + Int.toNat x1 * (1 : Nat) < (5 : Nat)) (gd ((0 : Nat) < (5 : Nat)) (gd (x0.1 ≠ (0 : Int)) (gd ((0 : Nat) < (5 : Nat)) (gd ((0 : Nat) < (5 : Nat)) (gd (x0.1 ≠ (0 : Int)) (gd ((0 : Int) ≤ Int.tmod (wr IntKind.i64 (Int.tmod x2 x0.1 + x0.1)) x0.1) (some ((wr IntKind.i64 ((1 : Int) - wr IntKind.i64 ((2 : Int) * iand IntKind.i64 (ishr IntKind.i64 (List.getD (x0.1 :: x0.2.1.1 :: x0.2.1.2.1 :: x0.2.1.2.2.1 :: x0.2.1.2.2.2.1 :: ([] : List Int)) ((1 : Nat) + Int.toNat x1 * (1 : Nat)) (0 : Int)) (Int.tmod (wr IntKind.i64 (Int.tmod x2 x0.1 + x0.1)) x0.1)) (1 : Int))), ()) : Int × Unit)))))))))
noncomputable def g77_sh : List LSh := ([] : List LSh)
def gSum (q : QtD) (d : Int) : Int := sumN (fun k => sumN (fun i => sgnF q k i * sgnF q k (i + d)) q.1.toNat) 4
def goodF (q : QtD) : Bool := (List.range (q.1.toNat - 1)).all fun (d : Nat) => decide (gSum q ((d + 1 : Nat) : Int) = 0)
noncomputable def con74 : Con := mkC 74 [.d Qt] [.bool] (fun (q : QtD) => [valQ q = true]) (fun (q : QtD) => (goodF q, ()))
noncomputable def g74_l0 (d1 : Int × List Int × Unit) (d2 d3 : Int × Int × List Int × Unit) : Option (Lp (Int × Int × List Int × Unit) (Lp (Int × Int × List Int × Unit) (Lp (Int × List Int × Unit) (Bool × Unit)))) := bif ilt d3.2.1 (List.getD d2.2.2.1 (0 : Nat) (0 : Int)) then gd ((5 : Nat) ≤ List.length d3.2.2.1) (gd (valQ ((List.getD d3.2.2.1 (0 : Nat) (0 : Int), ((List.getD d3.2.2.1 (1 : Nat) (0 : Int), List.getD d3.2.2.1 (2 : Nat) (0 : Int), List.getD d3.2.2.1 (3 : Nat) (0 : Int), List.getD d3.2.2.1 (4 : Nat) (0 : Int), ()) : Int × Int × Int × Int × Unit), ()) : Int × (Int × Int × Int × Int × Unit) × Unit) = true) (gd ((0 : Int) ≤ d2.2.1) (gd (d2.2.1 < (4 : Int)) (gd ((-5 : Int) ≤ d3.2.1) (gd (d3.2.1 ≤ (10 : Int)) (gd ((5 : Nat) ≤ List.length d3.2.2.1) (gd (valQ ((List.getD d3.2.2.1 (0 : Nat) (0 : Int), ((List.getD d3.2.2.1 (1 : Nat) (0 : Int), List.getD d3.2.2.1 (2 : Nat) (0 : Int), List.getD d3.2.2.1 (3 : Nat) (0 : Int), List.getD d3.2.2.1 (4 : Nat) (0 : Int), ()) : Int × Int × Int × Int × Unit), ()) : Int × (Int × Int × Int × Int × Unit) × Unit) = true) (gd ((0 : Int) ≤ d2.2.1) (gd (d2.2.1 < (4 : Int)) (gd ((-5 : Int) ≤ wr IntKind.i64 (d3.2.1 + d1.1)) (gd (wr IntKind.i64 (d3.2.1 + d1.1) ≤ (10 : Int)) (some (Lp.go ((wr IntKind.i64 (d3.1 + wr IntKind.i64 (sgnF ((List.getD d3.2.2.1 (0 : Nat) (0 : Int), ((List.getD d3.2.2.1 (1 : Nat) (0 : Int), List.getD d3.2.2.1 (2 : Nat) (0 : Int), List.getD d3.2.2.1 (3 : Nat) (0 : Int), List.getD d3.2.2.1 (4 : Nat) (0 : Int), ()) : Int × Int × Int × Int × Unit), ()) : Int × (Int × Int × Int × Int × Unit) × Unit) d2.2.1 d3.2.1 * sgnF ((List.getD d3.2.2.1 (0 : Nat) (0 : Int), ((List.getD d3.2.2.1 (1 : Nat) (0 : Int), List.getD d3.2.2.1 (2 : Nat) (0 : Int), List.getD d3.2.2.1 (3 : Nat) (0 : Int), List.getD d3.2.2.1 (4 : Nat) (0 : Int), ()) : Int × Int × Int × Int × Unit), ()) : Int × (Int × Int × Int × Int × Unit) × Unit) d2.2.1 (wr IntKind.i64 (d3.2.1 + d1.1)))), wr IntKind.i64 (d3.2.1 + (1 : Int)), d3.2.2.1, ()) : Int × Int × List Int × Unit)))))))))))))) else some (Lp.out (Lp.go ((d3.1, wr IntKind.i64 (d2.2.1 + (1 : Int)), d3.2.2.1, ()) : Int × Int × List Int × Unit)))
noncomputable def g74_l1 (d1 : Int × List Int × Unit) (d2 : Int × Int × List Int × Unit) : Option (Lp (Int × Int × List Int × Unit) (Lp (Int × List Int × Unit) (Bool × Unit))) := bif ilt d2.2.1 (4 : Int) then gd ((0 : Nat) < List.length d2.2.2.1) (whileO (g74_l0 d1 d2) ((d2.1, (0 : Int), d2.2.2.1, ()) : Int × Int × List Int × Unit)) else bif !ieq d2.1 (0 : Int) then some (Lp.out (Lp.out ((false, ()) : Bool × Unit))) else some (Lp.out (Lp.go ((wr IntKind.i64 (d1.1 + (1 : Int)), d2.2.2.1, ()) : Int × List Int × Unit)))
noncomputable def g74 (x0 : Int × (Int × Int × Int × Int × Unit) × Unit) : Option (Bool × Unit) := whileO (fun (d1 : Int × List Int × Unit) => gd ((0 : Nat) < List.length d1.2.1) (bif ilt d1.1 (List.getD d1.2.1 (0 : Nat) (0 : Int)) then whileO (g74_l1 d1) (((0 : Int), (0 : Int), d1.2.1, ()) : Int × Int × List Int × Unit) else some (Lp.out ((true, ()) : Bool × Unit)))) (((1 : Int), x0.1 :: x0.2.1.1 :: x0.2.1.2.1 :: x0.2.1.2.2.1 :: x0.2.1.2.2.2.1 :: ([] : List Int), ()) : Int × List Int × Unit)
noncomputable def g74_sh : List LSh := LSh.mk (((1, TV.ref (0) (1 : Nat) (0 : Nat) (0 : Nat)) : Nat × TV) :: ((3, TV.v (Ty.int IntKind.i64)) : Nat × TV) :: ([] : List (Nat × TV))) (TB.arr (Ty.int IntKind.i64) false :: ([] : List TB)) :: LSh.mk (((1, TV.ref (0) (1 : Nat) (0 : Nat) (0 : Nat)) : Nat × TV) :: ((4, TV.v (Ty.int IntKind.i64)) : Nat × TV) :: ((13, TV.v (Ty.int IntKind.i64)) : Nat × TV) :: ([] : List (Nat × TV))) (TB.arr (Ty.int IntKind.i64) false :: ([] : List TB)) :: LSh.mk (((1, TV.ref (0) (1 : Nat) (0 : Nat) (0 : Nat)) : Nat × TV) :: ((4, TV.v (Ty.int IntKind.i64)) : Nat × TV) :: ((18, TV.v (Ty.int IntKind.i64)) : Nat × TV) :: ([] : List (Nat × TV))) (TB.arr (Ty.int IntKind.i64) false :: ([] : List TB)) :: ([] : List LSh)
def goodX (q : QtD) : Bool × Int × Unit := if valQ q = true then (goodF q, 0, ()) else (false, 2, ())
noncomputable def con35 : Con := mkC 35 [.d I64, .d A4] [.bool, I64] (fun (m : Int) (s : A4D) => []) (fun (m : Int) (s : A4D) => goodX (m, s, ()))
noncomputable def g35 (x0 : Int) (x1 : Int × Int × Int × Int × Unit) : Option (Bool × Int × Unit) := gd ((4 : Nat) ≤ (4 : Nat)) (gd ((5 : Nat) ≤ (5 : Nat)) (gd ((5 : Nat) ≤ (5 : Nat)) (bif !valQ ((x0, ((x1.1, x1.2.1, x1.2.2.1, x1.2.2.2.1, ()) : Int × Int × Int × Int × Unit), ()) : Int × (Int × Int × Int × Int × Unit) × Unit) then some ((false, (2 : Int), ()) : Bool × Int × Unit) else gd ((5 : Nat) ≤ (5 : Nat)) (gd (valQ ((x0, ((x1.1, x1.2.1, x1.2.2.1, x1.2.2.2.1, ()) : Int × Int × Int × Int × Unit), ()) : Int × (Int × Int × Int × Int × Unit) × Unit) = true) (some ((goodF ((x0, ((x1.1, x1.2.1, x1.2.2.1, x1.2.2.2.1, ()) : Int × Int × Int × Int × Unit), ()) : Int × (Int × Int × Int × Int × Unit) × Unit), (0 : Int), ()) : Bool × Int × Unit))))))
noncomputable def g35_sh : List LSh := ([] : List LSh)
abbrev Bk : Ty := .prod I64 (.prod .bool .unit)
abbrev R4 : Ty := .prod Bk (.prod Bk (.prod Bk (.prod Bk .unit)))
abbrev W4 : Ty := .prod R4 (.prod R4 (.prod R4 (.prod R4 .unit)))
abbrev BkD := Int × Bool × Unit
abbrev R4D := BkD × BkD × BkD × BkD × Unit
abbrev W4D := R4D × R4D × R4D × R4D × Unit
def whereC : W4D := (((0, false, ()), (1, false, ()), (2, false, ()), (3, false, ()), ()), ((1, true, ()), (0, false, ()), (3, true, ()), (2, false, ()), ()), ((2, true, ()), (3, false, ()), (0, false, ()), (1, true, ()), ()), ((3, true, ()), (2, true, ()), (1, false, ()), (0, false, ()), ()), ())
noncomputable def con75 : Con := mkC 75 [] [W4] [] (whereC, ())
noncomputable def g75  : Option ((((Int × Bool × Unit) × (Int × Bool × Unit) × (Int × Bool × Unit) × (Int × Bool × Unit) × Unit) × ((Int × Bool × Unit) × (Int × Bool × Unit) × (Int × Bool × Unit) × (Int × Bool × Unit) × Unit) × ((Int × Bool × Unit) × (Int × Bool × Unit) × (Int × Bool × Unit) × (Int × Bool × Unit) × Unit) × ((Int × Bool × Unit) × (Int × Bool × Unit) × (Int × Bool × Unit) × (Int × Bool × Unit) × Unit) × Unit) × Unit) := some (((((((((0 : Int), false, ()) : Int × Bool × Unit), (((1 : Int), false, ()) : Int × Bool × Unit), (((2 : Int), false, ()) : Int × Bool × Unit), (((3 : Int), false, ()) : Int × Bool × Unit), ()) : (Int × Bool × Unit) × (Int × Bool × Unit) × (Int × Bool × Unit) × (Int × Bool × Unit) × Unit), (((((1 : Int), true, ()) : Int × Bool × Unit), (((0 : Int), false, ()) : Int × Bool × Unit), (((3 : Int), true, ()) : Int × Bool × Unit), (((2 : Int), false, ()) : Int × Bool × Unit), ()) : (Int × Bool × Unit) × (Int × Bool × Unit) × (Int × Bool × Unit) × (Int × Bool × Unit) × Unit), (((((2 : Int), true, ()) : Int × Bool × Unit), (((3 : Int), false, ()) : Int × Bool × Unit), (((0 : Int), false, ()) : Int × Bool × Unit), (((1 : Int), true, ()) : Int × Bool × Unit), ()) : (Int × Bool × Unit) × (Int × Bool × Unit) × (Int × Bool × Unit) × (Int × Bool × Unit) × Unit), (((((3 : Int), true, ()) : Int × Bool × Unit), (((2 : Int), true, ()) : Int × Bool × Unit), (((1 : Int), false, ()) : Int × Bool × Unit), (((0 : Int), false, ()) : Int × Bool × Unit), ()) : (Int × Bool × Unit) × (Int × Bool × Unit) × (Int × Bool × Unit) × (Int × Bool × Unit) × Unit), ()) : ((Int × Bool × Unit) × (Int × Bool × Unit) × (Int × Bool × Unit) × (Int × Bool × Unit) × Unit) × ((Int × Bool × Unit) × (Int × Bool × Unit) × (Int × Bool × Unit) × (Int × Bool × Unit) × Unit) × ((Int × Bool × Unit) × (Int × Bool × Unit) × (Int × Bool × Unit) × (Int × Bool × Unit) × Unit) × ((Int × Bool × Unit) × (Int × Bool × Unit) × (Int × Bool × Unit) × (Int × Bool × Unit) × Unit) × Unit), ()) : (((Int × Bool × Unit) × (Int × Bool × Unit) × (Int × Bool × Unit) × (Int × Bool × Unit) × Unit) × ((Int × Bool × Unit) × (Int × Bool × Unit) × (Int × Bool × Unit) × (Int × Bool × Unit) × Unit) × ((Int × Bool × Unit) × (Int × Bool × Unit) × (Int × Bool × Unit) × (Int × Bool × Unit) × Unit) × ((Int × Bool × Unit) × (Int × Bool × Unit) × (Int × Bool × Unit) × (Int × Bool × Unit) × Unit) × Unit) × Unit)
noncomputable def g75_sh : List LSh := ([] : List LSh)
def isNeg (a b : Int) : Bool := [4, 6, 8, 11, 12, 13].contains (4 * a + b)
def blkX (a b : Int) : Int := ((a.toNat ^^^ b.toNat : Nat) : Int)
def arrB (q : QtD) (i j : Int) : Bool := xor (decide (sgnF q (blkX (i / q.1) (j / q.1)) (j % q.1 - i % q.1) < 0)) (isNeg (i / q.1) (j / q.1))
noncomputable def con76 : Con := mkC 76 [.d I64, .d I64, .d (.ptr W4), .d (.ptr I64), .d (.ptr Qt)] [.bool] (fun (i j : Int) (w : W4D) (m : Int) (q : QtD) => [w = whereC, m = q.1, valQ q = true, 0 ≤ i, i < 4 * m, 0 ≤ j, j < 4 * m]) (fun (i j : Int) (w : W4D) (m : Int) (q : QtD) => (arrB q i j, ()))
noncomputable def g76 (x0 x1 : Int) (x2 : ((Int × Bool × Unit) × (Int × Bool × Unit) × (Int × Bool × Unit) × (Int × Bool × Unit) × Unit) × ((Int × Bool × Unit) × (Int × Bool × Unit) × (Int × Bool × Unit) × (Int × Bool × Unit) × Unit) × ((Int × Bool × Unit) × (Int × Bool × Unit) × (Int × Bool × Unit) × (Int × Bool × Unit) × Unit) × ((Int × Bool × Unit) × (Int × Bool × Unit) × (Int × Bool × Unit) × (Int × Bool × Unit) × Unit) × Unit) (x3 : Int) (x4 : Int × (Int × Int × Int × Int × Unit) × Unit) : Option (Bool × Unit) := gd (x3 ≠ (0 : Int)) (gd (x3 ≠ (0 : Int)) (gd ((0 : Int) ≤ wr IntKind.i64 (Int.tdiv x0 x3) ∧ wr IntKind.i64 (Int.tdiv x0 x3) < (4 : Int)) (gd ((0 : Int) ≤ wr IntKind.i64 (Int.tdiv x1 x3) ∧ wr IntKind.i64 (Int.tdiv x1 x3) < (4 : Int)) (gd (x3 ≠ (0 : Int)) (gd (x3 ≠ (0 : Int)) (gd (valQ x4 = true) (gd ((0 : Int) ≤ (@id (Int × Bool × Unit) (arrGet (4 : Nat) (Ty.prod (Ty.int IntKind.i64) (Ty.prod Ty.bool Ty.unit)) ((@id ((Int × Bool × Unit) × (Int × Bool × Unit) × (Int × Bool × Unit) × (Int × Bool × Unit) × Unit) (arrGet (4 : Nat) (Ty.prod (Ty.prod (Ty.int IntKind.i64) (Ty.prod Ty.bool Ty.unit)) (Ty.prod (Ty.prod (Ty.int IntKind.i64) (Ty.prod Ty.bool Ty.unit)) (Ty.prod (Ty.prod (Ty.int IntKind.i64) (Ty.prod Ty.bool Ty.unit)) (Ty.prod (Ty.prod (Ty.int IntKind.i64) (Ty.prod Ty.bool Ty.unit)) Ty.unit)))) (x2 : ((Int × Bool × Unit) × (Int × Bool × Unit) × (Int × Bool × Unit) × (Int × Bool × Unit) × Unit) × ((Int × Bool × Unit) × (Int × Bool × Unit) × (Int × Bool × Unit) × (Int × Bool × Unit) × Unit) × ((Int × Bool × Unit) × (Int × Bool × Unit) × (Int × Bool × Unit) × (Int × Bool × Unit) × Unit) × ((Int × Bool × Unit) × (Int × Bool × Unit) × (Int × Bool × Unit) × (Int × Bool × Unit) × Unit) × Unit) (Int.toNat (wr IntKind.i64 (Int.tdiv x0 x3))))) : Den (Ty.prod (Ty.prod (Ty.int IntKind.i64) (Ty.prod Ty.bool Ty.unit)) (Ty.prod (Ty.prod (Ty.int IntKind.i64) (Ty.prod Ty.bool Ty.unit)) (Ty.prod (Ty.prod (Ty.int IntKind.i64) (Ty.prod Ty.bool Ty.unit)) (Ty.prod (Ty.prod (Ty.int IntKind.i64) (Ty.prod Ty.bool Ty.unit)) Ty.unit))))) (Int.toNat (wr IntKind.i64 (Int.tdiv x1 x3))))).1) (gd ((@id (Int × Bool × Unit) (arrGet (4 : Nat) (Ty.prod (Ty.int IntKind.i64) (Ty.prod Ty.bool Ty.unit)) ((@id ((Int × Bool × Unit) × (Int × Bool × Unit) × (Int × Bool × Unit) × (Int × Bool × Unit) × Unit) (arrGet (4 : Nat) (Ty.prod (Ty.prod (Ty.int IntKind.i64) (Ty.prod Ty.bool Ty.unit)) (Ty.prod (Ty.prod (Ty.int IntKind.i64) (Ty.prod Ty.bool Ty.unit)) (Ty.prod (Ty.prod (Ty.int IntKind.i64) (Ty.prod Ty.bool Ty.unit)) (Ty.prod (Ty.prod (Ty.int IntKind.i64) (Ty.prod Ty.bool Ty.unit)) Ty.unit)))) (x2 : ((Int × Bool × Unit) × (Int × Bool × Unit) × (Int × Bool × Unit) × (Int × Bool × Unit) × Unit) × ((Int × Bool × Unit) × (Int × Bool × Unit) × (Int × Bool × Unit) × (Int × Bool × Unit) × Unit) × ((Int × Bool × Unit) × (Int × Bool × Unit) × (Int × Bool × Unit) × (Int × Bool × Unit) × Unit) × ((Int × Bool × Unit) × (Int × Bool × Unit) × (Int × Bool × Unit) × (Int × Bool × Unit) × Unit) × Unit) (Int.toNat (wr IntKind.i64 (Int.tdiv x0 x3))))) : Den (Ty.prod (Ty.prod (Ty.int IntKind.i64) (Ty.prod Ty.bool Ty.unit)) (Ty.prod (Ty.prod (Ty.int IntKind.i64) (Ty.prod Ty.bool Ty.unit)) (Ty.prod (Ty.prod (Ty.int IntKind.i64) (Ty.prod Ty.bool Ty.unit)) (Ty.prod (Ty.prod (Ty.int IntKind.i64) (Ty.prod Ty.bool Ty.unit)) Ty.unit))))) (Int.toNat (wr IntKind.i64 (Int.tdiv x1 x3))))).1 < (4 : Int)) (gd ((-5 : Int) ≤ wr IntKind.i64 (Int.tmod x1 x3 - Int.tmod x0 x3)) (gd (wr IntKind.i64 (Int.tmod x1 x3 - Int.tmod x0 x3) ≤ (10 : Int)) (some ((!beqB (ilt (sgnF x4 (@id (Int × Bool × Unit) (arrGet (4 : Nat) (Ty.prod (Ty.int IntKind.i64) (Ty.prod Ty.bool Ty.unit)) ((@id ((Int × Bool × Unit) × (Int × Bool × Unit) × (Int × Bool × Unit) × (Int × Bool × Unit) × Unit) (arrGet (4 : Nat) (Ty.prod (Ty.prod (Ty.int IntKind.i64) (Ty.prod Ty.bool Ty.unit)) (Ty.prod (Ty.prod (Ty.int IntKind.i64) (Ty.prod Ty.bool Ty.unit)) (Ty.prod (Ty.prod (Ty.int IntKind.i64) (Ty.prod Ty.bool Ty.unit)) (Ty.prod (Ty.prod (Ty.int IntKind.i64) (Ty.prod Ty.bool Ty.unit)) Ty.unit)))) (x2 : ((Int × Bool × Unit) × (Int × Bool × Unit) × (Int × Bool × Unit) × (Int × Bool × Unit) × Unit) × ((Int × Bool × Unit) × (Int × Bool × Unit) × (Int × Bool × Unit) × (Int × Bool × Unit) × Unit) × ((Int × Bool × Unit) × (Int × Bool × Unit) × (Int × Bool × Unit) × (Int × Bool × Unit) × Unit) × ((Int × Bool × Unit) × (Int × Bool × Unit) × (Int × Bool × Unit) × (Int × Bool × Unit) × Unit) × Unit) (Int.toNat (wr IntKind.i64 (Int.tdiv x0 x3))))) : Den (Ty.prod (Ty.prod (Ty.int IntKind.i64) (Ty.prod Ty.bool Ty.unit)) (Ty.prod (Ty.prod (Ty.int IntKind.i64) (Ty.prod Ty.bool Ty.unit)) (Ty.prod (Ty.prod (Ty.int IntKind.i64) (Ty.prod Ty.bool Ty.unit)) (Ty.prod (Ty.prod (Ty.int IntKind.i64) (Ty.prod Ty.bool Ty.unit)) Ty.unit))))) (Int.toNat (wr IntKind.i64 (Int.tdiv x1 x3))))).1 (wr IntKind.i64 (Int.tmod x1 x3 - Int.tmod x0 x3))) (0 : Int)) (@id (Int × Bool × Unit) (arrGet (4 : Nat) (Ty.prod (Ty.int IntKind.i64) (Ty.prod Ty.bool Ty.unit)) ((@id ((Int × Bool × Unit) × (Int × Bool × Unit) × (Int × Bool × Unit) × (Int × Bool × Unit) × Unit) (arrGet (4 : Nat) (Ty.prod (Ty.prod (Ty.int IntKind.i64) (Ty.prod Ty.bool Ty.unit)) (Ty.prod (Ty.prod (Ty.int IntKind.i64) (Ty.prod Ty.bool Ty.unit)) (Ty.prod (Ty.prod (Ty.int IntKind.i64) (Ty.prod Ty.bool Ty.unit)) (Ty.prod (Ty.prod (Ty.int IntKind.i64) (Ty.prod Ty.bool Ty.unit)) Ty.unit)))) (x2 : ((Int × Bool × Unit) × (Int × Bool × Unit) × (Int × Bool × Unit) × (Int × Bool × Unit) × Unit) × ((Int × Bool × Unit) × (Int × Bool × Unit) × (Int × Bool × Unit) × (Int × Bool × Unit) × Unit) × ((Int × Bool × Unit) × (Int × Bool × Unit) × (Int × Bool × Unit) × (Int × Bool × Unit) × Unit) × ((Int × Bool × Unit) × (Int × Bool × Unit) × (Int × Bool × Unit) × (Int × Bool × Unit) × Unit) × Unit) (Int.toNat (wr IntKind.i64 (Int.tdiv x0 x3))))) : Den (Ty.prod (Ty.prod (Ty.int IntKind.i64) (Ty.prod Ty.bool Ty.unit)) (Ty.prod (Ty.prod (Ty.int IntKind.i64) (Ty.prod Ty.bool Ty.unit)) (Ty.prod (Ty.prod (Ty.int IntKind.i64) (Ty.prod Ty.bool Ty.unit)) (Ty.prod (Ty.prod (Ty.int IntKind.i64) (Ty.prod Ty.bool Ty.unit)) Ty.unit))))) (Int.toNat (wr IntKind.i64 (Int.tdiv x1 x3))))).2.1, ()) : Bool × Unit))))))))))))
noncomputable def g76_sh : List LSh := ([] : List LSh)
noncomputable def con59a : Con := mkC 59 [.d I64, .fn 76 [.ptr W4, .ptr I64, .ptr Qt]] [LI] (fun (n : Int) (w : W4D) (m : Int) (q : QtD) => [w = whereC, m = q.1, valQ q = true, n = 4 * m, n ≤ 16]) (fun (n : Int) (w : W4D) (m : Int) (q : QtD) => (madeF n.toNat (arrB q), ()))
noncomputable def g59a_l0 (x0 : Int) (d4 d5 : (((Int × Bool × Unit) × (Int × Bool × Unit) × (Int × Bool × Unit) × (Int × Bool × Unit) × Unit) × ((Int × Bool × Unit) × (Int × Bool × Unit) × (Int × Bool × Unit) × (Int × Bool × Unit) × Unit) × ((Int × Bool × Unit) × (Int × Bool × Unit) × (Int × Bool × Unit) × (Int × Bool × Unit) × Unit) × ((Int × Bool × Unit) × (Int × Bool × Unit) × (Int × Bool × Unit) × (Int × Bool × Unit) × Unit) × Unit) × Int × (Int × (Int × Int × Int × Int × Unit) × Unit) × Int × List Int × Unit) : Option (Lp ((((Int × Bool × Unit) × (Int × Bool × Unit) × (Int × Bool × Unit) × (Int × Bool × Unit) × Unit) × ((Int × Bool × Unit) × (Int × Bool × Unit) × (Int × Bool × Unit) × (Int × Bool × Unit) × Unit) × ((Int × Bool × Unit) × (Int × Bool × Unit) × (Int × Bool × Unit) × (Int × Bool × Unit) × Unit) × ((Int × Bool × Unit) × (Int × Bool × Unit) × (Int × Bool × Unit) × (Int × Bool × Unit) × Unit) × Unit) × Int × (Int × (Int × Int × Int × Int × Unit) × Unit) × Int × List Int × Unit) (Lp ((((Int × Bool × Unit) × (Int × Bool × Unit) × (Int × Bool × Unit) × (Int × Bool × Unit) × Unit) × ((Int × Bool × Unit) × (Int × Bool × Unit) × (Int × Bool × Unit) × (Int × Bool × Unit) × Unit) × ((Int × Bool × Unit) × (Int × Bool × Unit) × (Int × Bool × Unit) × (Int × Bool × Unit) × Unit) × ((Int × Bool × Unit) × (Int × Bool × Unit) × (Int × Bool × Unit) × (Int × Bool × Unit) × Unit) × Unit) × Int × (Int × (Int × Int × Int × Int × Unit) × Unit) × Int × List Int × Unit) (List Int × Unit))) := bif ilt d5.2.2.2.1 x0 then gd (d5.1 = whereC) (gd (d5.2.1 = d5.2.2.1.1) (gd (valQ d5.2.2.1 = true) (gd ((0 : Int) ≤ d4.2.2.2.1) (gd (d4.2.2.2.1 < (4 : Int) * d5.2.1) (gd ((0 : Int) ≤ d5.2.2.2.1) (gd (d5.2.2.2.1 < (4 : Int) * d5.2.1) (bif arrB d5.2.2.1 d4.2.2.2.1 d5.2.2.2.1 then gd ((0 : Int) ≤ d4.2.2.2.1 ∧ d4.2.2.2.1 < (↑(List.length d5.2.2.2.2.1) : Int)) (gd ((0 : Nat) + Int.toNat d4.2.2.2.1 < List.length d5.2.2.2.2.1) (gd ((0 : Int) ≤ d5.2.2.2.1) (gd ((0 : Int) ≤ d4.2.2.2.1 ∧ d4.2.2.2.1 < (↑(List.length d5.2.2.2.2.1) : Int)) (gd ((0 : Nat) + Int.toNat d4.2.2.2.1 < List.length d5.2.2.2.2.1) (gd (List.length d5.2.2.2.2.1 = List.length (List.set d5.2.2.2.2.1 ((0 : Nat) + Int.toNat d4.2.2.2.1) (ior IntKind.i64 (List.getD d5.2.2.2.2.1 ((0 : Nat) + Int.toNat d4.2.2.2.1) (0 : Int)) (ishl IntKind.i64 (1 : Int) d5.2.2.2.1)))) (some (Lp.go ((d5.1, d5.2.1, d5.2.2.1, wr IntKind.i64 (d5.2.2.2.1 + (1 : Int)), List.set d5.2.2.2.2.1 ((0 : Nat) + Int.toNat d4.2.2.2.1) (ior IntKind.i64 (List.getD d5.2.2.2.2.1 ((0 : Nat) + Int.toNat d4.2.2.2.1) (0 : Int)) (ishl IntKind.i64 (1 : Int) d5.2.2.2.1)), ()) : (((Int × Bool × Unit) × (Int × Bool × Unit) × (Int × Bool × Unit) × (Int × Bool × Unit) × Unit) × ((Int × Bool × Unit) × (Int × Bool × Unit) × (Int × Bool × Unit) × (Int × Bool × Unit) × Unit) × ((Int × Bool × Unit) × (Int × Bool × Unit) × (Int × Bool × Unit) × (Int × Bool × Unit) × Unit) × ((Int × Bool × Unit) × (Int × Bool × Unit) × (Int × Bool × Unit) × (Int × Bool × Unit) × Unit) × Unit) × Int × (Int × (Int × Int × Int × Int × Unit) × Unit) × Int × List Int × Unit)))))))) else gd (List.length d5.2.2.2.2.1 = List.length d5.2.2.2.2.1) (some (Lp.go ((d5.1, d5.2.1, d5.2.2.1, wr IntKind.i64 (d5.2.2.2.1 + (1 : Int)), d5.2.2.2.2.1, ()) : (((Int × Bool × Unit) × (Int × Bool × Unit) × (Int × Bool × Unit) × (Int × Bool × Unit) × Unit) × ((Int × Bool × Unit) × (Int × Bool × Unit) × (Int × Bool × Unit) × (Int × Bool × Unit) × Unit) × ((Int × Bool × Unit) × (Int × Bool × Unit) × (Int × Bool × Unit) × (Int × Bool × Unit) × Unit) × ((Int × Bool × Unit) × (Int × Bool × Unit) × (Int × Bool × Unit) × (Int × Bool × Unit) × Unit) × Unit) × Int × (Int × (Int × Int × Int × Int × Unit) × Unit) × Int × List Int × Unit)))))))))) else gd (List.length d5.2.2.2.2.1 = List.length d5.2.2.2.2.1) (some (Lp.out (Lp.go ((d5.1, d5.2.1, d5.2.2.1, wr IntKind.i64 (d4.2.2.2.1 + (1 : Int)), d5.2.2.2.2.1, ()) : (((Int × Bool × Unit) × (Int × Bool × Unit) × (Int × Bool × Unit) × (Int × Bool × Unit) × Unit) × ((Int × Bool × Unit) × (Int × Bool × Unit) × (Int × Bool × Unit) × (Int × Bool × Unit) × Unit) × ((Int × Bool × Unit) × (Int × Bool × Unit) × (Int × Bool × Unit) × (Int × Bool × Unit) × Unit) × ((Int × Bool × Unit) × (Int × Bool × Unit) × (Int × Bool × Unit) × (Int × Bool × Unit) × Unit) × Unit) × Int × (Int × (Int × Int × Int × Int × Unit) × Unit) × Int × List Int × Unit))))
noncomputable def g59a (x0 : Int) (x1 : ((Int × Bool × Unit) × (Int × Bool × Unit) × (Int × Bool × Unit) × (Int × Bool × Unit) × Unit) × ((Int × Bool × Unit) × (Int × Bool × Unit) × (Int × Bool × Unit) × (Int × Bool × Unit) × Unit) × ((Int × Bool × Unit) × (Int × Bool × Unit) × (Int × Bool × Unit) × (Int × Bool × Unit) × Unit) × ((Int × Bool × Unit) × (Int × Bool × Unit) × (Int × Bool × Unit) × (Int × Bool × Unit) × Unit) × Unit) (x2 : Int) (x3 : Int × (Int × Int × Int × Int × Unit) × Unit) : Option (List Int × Unit) := gd ((0 : Int) ≤ x0 ∧ x0 ≤ x0 ∧ x0 * (8 : Int) ≤ (1099511627776 : Int)) (gd (Int.toNat x0 = List.length (List.replicate (Int.toNat x0) (0 : Int))) (whileO (fun (d4 : (((Int × Bool × Unit) × (Int × Bool × Unit) × (Int × Bool × Unit) × (Int × Bool × Unit) × Unit) × ((Int × Bool × Unit) × (Int × Bool × Unit) × (Int × Bool × Unit) × (Int × Bool × Unit) × Unit) × ((Int × Bool × Unit) × (Int × Bool × Unit) × (Int × Bool × Unit) × (Int × Bool × Unit) × Unit) × ((Int × Bool × Unit) × (Int × Bool × Unit) × (Int × Bool × Unit) × (Int × Bool × Unit) × Unit) × Unit) × Int × (Int × (Int × Int × Int × Int × Unit) × Unit) × Int × List Int × Unit) => bif ilt d4.2.2.2.1 x0 then gd (List.length d4.2.2.2.2.1 = List.length d4.2.2.2.2.1) (whileO (g59a_l0 x0 d4) ((d4.1, d4.2.1, d4.2.2.1, (0 : Int), d4.2.2.2.2.1, ()) : (((Int × Bool × Unit) × (Int × Bool × Unit) × (Int × Bool × Unit) × (Int × Bool × Unit) × Unit) × ((Int × Bool × Unit) × (Int × Bool × Unit) × (Int × Bool × Unit) × (Int × Bool × Unit) × Unit) × ((Int × Bool × Unit) × (Int × Bool × Unit) × (Int × Bool × Unit) × (Int × Bool × Unit) × Unit) × ((Int × Bool × Unit) × (Int × Bool × Unit) × (Int × Bool × Unit) × (Int × Bool × Unit) × Unit) × Unit) × Int × (Int × (Int × Int × Int × Int × Unit) × Unit) × Int × List Int × Unit)) else gd ((0 : Nat) + List.length d4.2.2.2.2.1 ≤ List.length d4.2.2.2.2.1) (some (Lp.out ((List.take (List.length d4.2.2.2.2.1) (List.drop (0 : Nat) d4.2.2.2.2.1), ()) : List Int × Unit)))) ((x1, x2, x3, (0 : Int), List.replicate (Int.toNat x0) (0 : Int), ()) : (((Int × Bool × Unit) × (Int × Bool × Unit) × (Int × Bool × Unit) × (Int × Bool × Unit) × Unit) × ((Int × Bool × Unit) × (Int × Bool × Unit) × (Int × Bool × Unit) × (Int × Bool × Unit) × Unit) × ((Int × Bool × Unit) × (Int × Bool × Unit) × (Int × Bool × Unit) × (Int × Bool × Unit) × Unit) × ((Int × Bool × Unit) × (Int × Bool × Unit) × (Int × Bool × Unit) × (Int × Bool × Unit) × Unit) × Unit) × Int × (Int × (Int × Int × Int × Int × Unit) × Unit) × Int × List Int × Unit)))
noncomputable def g59a_sh : List LSh := LSh.mk (((1, TV.fn (76) (TV.cons (TV.v (Ty.ptr (Ty.prod (Ty.prod (Ty.prod (Ty.int IntKind.i64) (Ty.prod Ty.bool Ty.unit)) (Ty.prod (Ty.prod (Ty.int IntKind.i64) (Ty.prod Ty.bool Ty.unit)) (Ty.prod (Ty.prod (Ty.int IntKind.i64) (Ty.prod Ty.bool Ty.unit)) (Ty.prod (Ty.prod (Ty.int IntKind.i64) (Ty.prod Ty.bool Ty.unit)) Ty.unit)))) (Ty.prod (Ty.prod (Ty.prod (Ty.int IntKind.i64) (Ty.prod Ty.bool Ty.unit)) (Ty.prod (Ty.prod (Ty.int IntKind.i64) (Ty.prod Ty.bool Ty.unit)) (Ty.prod (Ty.prod (Ty.int IntKind.i64) (Ty.prod Ty.bool Ty.unit)) (Ty.prod (Ty.prod (Ty.int IntKind.i64) (Ty.prod Ty.bool Ty.unit)) Ty.unit)))) (Ty.prod (Ty.prod (Ty.prod (Ty.int IntKind.i64) (Ty.prod Ty.bool Ty.unit)) (Ty.prod (Ty.prod (Ty.int IntKind.i64) (Ty.prod Ty.bool Ty.unit)) (Ty.prod (Ty.prod (Ty.int IntKind.i64) (Ty.prod Ty.bool Ty.unit)) (Ty.prod (Ty.prod (Ty.int IntKind.i64) (Ty.prod Ty.bool Ty.unit)) Ty.unit)))) (Ty.prod (Ty.prod (Ty.prod (Ty.int IntKind.i64) (Ty.prod Ty.bool Ty.unit)) (Ty.prod (Ty.prod (Ty.int IntKind.i64) (Ty.prod Ty.bool Ty.unit)) (Ty.prod (Ty.prod (Ty.int IntKind.i64) (Ty.prod Ty.bool Ty.unit)) (Ty.prod (Ty.prod (Ty.int IntKind.i64) (Ty.prod Ty.bool Ty.unit)) Ty.unit)))) Ty.unit)))))) (TV.cons (TV.v (Ty.ptr (Ty.int IntKind.i64))) (TV.cons (TV.v (Ty.ptr (Ty.prod (Ty.int IntKind.i64) (Ty.prod (Ty.prod (Ty.int IntKind.i64) (Ty.prod (Ty.int IntKind.i64) (Ty.prod (Ty.int IntKind.i64) (Ty.prod (Ty.int IntKind.i64) Ty.unit)))) Ty.unit)))) TV.nil)))) : Nat × TV) :: ((5, TV.slf (0) (1)) : Nat × TV) :: ((11, TV.v (Ty.int IntKind.i64)) : Nat × TV) :: ([] : List (Nat × TV))) (TB.arr (Ty.int IntKind.i64) true :: ([] : List TB)) :: LSh.mk (((1, TV.fn (76) (TV.cons (TV.v (Ty.ptr (Ty.prod (Ty.prod (Ty.prod (Ty.int IntKind.i64) (Ty.prod Ty.bool Ty.unit)) (Ty.prod (Ty.prod (Ty.int IntKind.i64) (Ty.prod Ty.bool Ty.unit)) (Ty.prod (Ty.prod (Ty.int IntKind.i64) (Ty.prod Ty.bool Ty.unit)) (Ty.prod (Ty.prod (Ty.int IntKind.i64) (Ty.prod Ty.bool Ty.unit)) Ty.unit)))) (Ty.prod (Ty.prod (Ty.prod (Ty.int IntKind.i64) (Ty.prod Ty.bool Ty.unit)) (Ty.prod (Ty.prod (Ty.int IntKind.i64) (Ty.prod Ty.bool Ty.unit)) (Ty.prod (Ty.prod (Ty.int IntKind.i64) (Ty.prod Ty.bool Ty.unit)) (Ty.prod (Ty.prod (Ty.int IntKind.i64) (Ty.prod Ty.bool Ty.unit)) Ty.unit)))) (Ty.prod (Ty.prod (Ty.prod (Ty.int IntKind.i64) (Ty.prod Ty.bool Ty.unit)) (Ty.prod (Ty.prod (Ty.int IntKind.i64) (Ty.prod Ty.bool Ty.unit)) (Ty.prod (Ty.prod (Ty.int IntKind.i64) (Ty.prod Ty.bool Ty.unit)) (Ty.prod (Ty.prod (Ty.int IntKind.i64) (Ty.prod Ty.bool Ty.unit)) Ty.unit)))) (Ty.prod (Ty.prod (Ty.prod (Ty.int IntKind.i64) (Ty.prod Ty.bool Ty.unit)) (Ty.prod (Ty.prod (Ty.int IntKind.i64) (Ty.prod Ty.bool Ty.unit)) (Ty.prod (Ty.prod (Ty.int IntKind.i64) (Ty.prod Ty.bool Ty.unit)) (Ty.prod (Ty.prod (Ty.int IntKind.i64) (Ty.prod Ty.bool Ty.unit)) Ty.unit)))) Ty.unit)))))) (TV.cons (TV.v (Ty.ptr (Ty.int IntKind.i64))) (TV.cons (TV.v (Ty.ptr (Ty.prod (Ty.int IntKind.i64) (Ty.prod (Ty.prod (Ty.int IntKind.i64) (Ty.prod (Ty.int IntKind.i64) (Ty.prod (Ty.int IntKind.i64) (Ty.prod (Ty.int IntKind.i64) Ty.unit)))) Ty.unit)))) TV.nil)))) : Nat × TV) :: ((5, TV.slf (0) (1)) : Nat × TV) :: ((15, TV.v (Ty.int IntKind.i64)) : Nat × TV) :: ([] : List (Nat × TV))) (TB.arr (Ty.int IntKind.i64) true :: ([] : List TB)) :: ([] : List LSh)
def arrF (q : QtD) : List Int := madeF (4 * q.1).toNat (arrB q)
def arrX (q : QtD) : List Int × Int × Unit := if valQ q = true then (if q.1 ≤ 4 then (arrF q, 0, ()) else ([], 6, ())) else ([], 2, ())
noncomputable def con36 : Con := mkC 36 [.d I64, .d A4] [LI, I64] (fun (m : Int) (s : A4D) => []) (fun (m : Int) (s : A4D) => arrX (m, s, ()))
noncomputable def g36 (x0 : Int) (x1 : Int × Int × Int × Int × Unit) : Option (List Int × Int × Unit) := gd ((4 : Nat) ≤ (4 : Nat)) (gd ((5 : Nat) ≤ (5 : Nat)) (gd ((5 : Nat) ≤ (5 : Nat)) (bif !valQ ((x0, ((x1.1, x1.2.1, x1.2.2.1, x1.2.2.2.1, ()) : Int × Int × Int × Int × Unit), ()) : Int × (Int × Int × Int × Int × Unit) × Unit) then some ((([] : List Int), (2 : Int), ()) : List Int × Int × Unit) else bif ilt (16 : Int) (wr IntKind.i64 ((4 : Int) * x0)) then some ((([] : List Int), (6 : Int), ()) : List Int × Int × Unit) else gd ((5 : Nat) ≤ (5 : Nat)) (gd (((((((whereC.1.1.1, whereC.1.1.2.1, ()) : Int × Bool × Unit), ((whereC.1.2.1.1, whereC.1.2.1.2.1, ()) : Int × Bool × Unit), ((whereC.1.2.2.1.1, whereC.1.2.2.1.2.1, ()) : Int × Bool × Unit), ((whereC.1.2.2.2.1.1, whereC.1.2.2.2.1.2.1, ()) : Int × Bool × Unit), ()) : (Int × Bool × Unit) × (Int × Bool × Unit) × (Int × Bool × Unit) × (Int × Bool × Unit) × Unit), ((((whereC.2.1.1.1, whereC.2.1.1.2.1, ()) : Int × Bool × Unit), ((whereC.2.1.2.1.1, whereC.2.1.2.1.2.1, ()) : Int × Bool × Unit), ((whereC.2.1.2.2.1.1, whereC.2.1.2.2.1.2.1, ()) : Int × Bool × Unit), ((whereC.2.1.2.2.2.1.1, whereC.2.1.2.2.2.1.2.1, ()) : Int × Bool × Unit), ()) : (Int × Bool × Unit) × (Int × Bool × Unit) × (Int × Bool × Unit) × (Int × Bool × Unit) × Unit), ((((whereC.2.2.1.1.1, whereC.2.2.1.1.2.1, ()) : Int × Bool × Unit), ((whereC.2.2.1.2.1.1, whereC.2.2.1.2.1.2.1, ()) : Int × Bool × Unit), ((whereC.2.2.1.2.2.1.1, whereC.2.2.1.2.2.1.2.1, ()) : Int × Bool × Unit), ((whereC.2.2.1.2.2.2.1.1, whereC.2.2.1.2.2.2.1.2.1, ()) : Int × Bool × Unit), ()) : (Int × Bool × Unit) × (Int × Bool × Unit) × (Int × Bool × Unit) × (Int × Bool × Unit) × Unit), ((((whereC.2.2.2.1.1.1, whereC.2.2.2.1.1.2.1, ()) : Int × Bool × Unit), ((whereC.2.2.2.1.2.1.1, whereC.2.2.2.1.2.1.2.1, ()) : Int × Bool × Unit), ((whereC.2.2.2.1.2.2.1.1, whereC.2.2.2.1.2.2.1.2.1, ()) : Int × Bool × Unit), ((whereC.2.2.2.1.2.2.2.1.1, whereC.2.2.2.1.2.2.2.1.2.1, ()) : Int × Bool × Unit), ()) : (Int × Bool × Unit) × (Int × Bool × Unit) × (Int × Bool × Unit) × (Int × Bool × Unit) × Unit), ()) : ((Int × Bool × Unit) × (Int × Bool × Unit) × (Int × Bool × Unit) × (Int × Bool × Unit) × Unit) × ((Int × Bool × Unit) × (Int × Bool × Unit) × (Int × Bool × Unit) × (Int × Bool × Unit) × Unit) × ((Int × Bool × Unit) × (Int × Bool × Unit) × (Int × Bool × Unit) × (Int × Bool × Unit) × Unit) × ((Int × Bool × Unit) × (Int × Bool × Unit) × (Int × Bool × Unit) × (Int × Bool × Unit) × Unit) × Unit) = whereC) (gd (x0 = x0) (gd (valQ ((x0, ((x1.1, x1.2.1, x1.2.2.1, x1.2.2.2.1, ()) : Int × Int × Int × Int × Unit), ()) : Int × (Int × Int × Int × Int × Unit) × Unit) = true) (gd (wr IntKind.i64 ((4 : Int) * x0) = (4 : Int) * x0) (gd (wr IntKind.i64 ((4 : Int) * x0) ≤ (16 : Int)) (some ((madeF (Int.toNat (wr IntKind.i64 ((4 : Int) * x0))) (arrB ((x0, ((x1.1, x1.2.1, x1.2.2.1, x1.2.2.2.1, ()) : Int × Int × Int × Int × Unit), ()) : Int × (Int × Int × Int × Int × Unit) × Unit)), (0 : Int), ()) : List Int × Int × Unit))))))))))
noncomputable def g36_sh : List LSh := ([] : List LSh)
end Go.Signs

set_option linter.unusedVariables false
set_option linter.unusedSimpArgs false
namespace Go.Signs
open Go Go.Ab Go.Proofs

theorem is135_iff {m : Int} : is135 m = true ↔ m = 1 ∨ m = 3 ∨ m = 5 := by
  simp only [is135, List.contains_iff_mem, List.mem_cons, List.not_mem_nil, or_false]
theorem is135_d {m : Int} : (bif bif !ieq m 1 then !ieq m 3 else false then !ieq m 5 else false) = !is135 m := by
  rw [Bool.eq_iff_iff]
  simp only [ieq_d]
  by_cases h1 : m = 1
  · subst h1; decide
  · by_cases h2 : m = 3
    · subst h2; decide
    · by_cases h3 : m = 5
      · subst h3; decide
      · have : is135 m = false := by rw [Bool.eq_false_iff]; intro hc; have := is135_iff.1 hc; omega
        simp [h1, h2, h3, this]

def seqQ (m s : Nat) (i : Nat) : Bool := s.testBit i == s.testBit (m - i)
theorem seq_all {m s : Nat} : ((List.range (m - 1)).all fun (i : Nat) => (s.testBit (i + 1) == s.testBit (m - (i + 1)))) = true ↔ ∀ i, 1 ≤ i → i < m → seqQ m s i = true := by
  rw [List.all_eq_true]
  constructor
  · intro h i h1 h2
    have := h (i - 1) (List.mem_range.2 (by omega))
    rw [show i - 1 + 1 = i by omega] at this
    exact this
  · intro h i hi
    have := List.mem_range.1 hi
    exact h (i + 1) (by omega) (by omega)
theorem bits_cmp {s i j : Nat} (hs : s < 65536) (hi : i < 16) (hj : j < 16) : ieq (iand .i64 (ishr .i64 (s : Int) (i : Int)) 1) (iand .i64 (ishr .i64 (s : Int) (j : Int)) 1) = (s.testBit i == s.testBit j) := by
  rw [(bit_nat hs hi).2, (bit_nat hs hj).2]
  unfold bit
  simp only [Int.toNat_natCast]
  have key : ∀ a b : Bool, ieq (if a = true then 1 else 0) (if b = true then 1 else 0) = (a == b) := by decide
  exact key _ _

theorem seq_loop {m s : Nat} (hm : m ≤ 5) (hs : s < 65536) {X : Type} {x y : X} {step : Int × Unit → Option (Lp (Int × Unit) X)}
    (h : ∀ i : Nat, 1 ≤ i → i < m → step (((i : Nat) : Int), ()) = some (cond (seqQ m s i) (.go ((((i + 1 : Nat) : Int), ()))) (.out x))) (h1 : 1 ≤ m) (hy : step (((m : Nat) : Int), ()) = some (.out y)) :
    whileO step ((1 : Int), ()) = some (cond ((List.range (m - 1)).all fun (i : Nat) => (s.testBit (i + 1) == s.testBit (m - (i + 1)))) y x) :=
  whileO_chk (st := fun i : Nat => ((i : Int), ())) (lo := 1) (hi := m) h1 seq_all h hy

theorem pow_m {m : Int} (h : is135 m = true) : (2 : Int) ^ m.toNat ≤ 32 := by
  rcases is135_iff.1 h with rfl | rfl | rfl <;> decide
theorem seq_bd {m s : Int} (hm : is135 m = true) (h : seqB m s = true) : 0 ≤ s ∧ s < 32 := by
  have := pow_m hm
  unfold seqB at h
  simp only [Bool.and_eq_true, decide_eq_true_eq] at h
  omega

theorem goal92 : con92.goal Try.prog (spOf []) g92_sh [] lm30 := by
  have e : (∀ (s : Int) (q : QtD), is135 q.1 = true → g92 s q = some (!seqB q.1 s, ())) = con92.goal Try.prog (spOf []) g92_sh [] lm30 := by kernel_rfl
  rw [← e]
  rintro s ⟨m, q, _⟩ hm
  simp only at hm ⊢
  have hp := pow_m hm
  have hm' := is135_iff.1 hm
  unfold g92
  simp only
  rw [ishl_pow (by omega) (by omega)]
  by_cases h1 : s < 0
  · have : seqB m s = false := by unfold seqB; rw [decide_eq_false (show ¬ 0 ≤ s by omega)]; rfl
    simp [ilt_iff.2 h1, this, gd_true]
  · by_cases h2 : s < 2 ^ m.toNat
    · have h0 : 0 ≤ m := by omega
      have hc : (bif ilt s 0 then true else ile (2 ^ m.toNat) s) = false := by rw [ilt_false.2 (by omega), ile_false.2 h2]; rfl
      simp only [hc, ilt_false.2 (Int.not_lt.1 h1), Bool.not_false, gd_true, and_self, imp_self, h0, forall_const, cond_false]
      obtain ⟨m, rfl⟩ : ∃ k : Nat, m = k := ⟨m.toNat, by omega⟩
      obtain ⟨s, rfl⟩ : ∃ k : Nat, s = k := ⟨s.toNat, by omega⟩
      have hm5 : m ≤ 5 := by omega
      have hs : s < 65536 := by omega
      have h2' : ile (2 ^ m) (s : Int) = false := ile_false.2 (by simpa using h2)
      simp only [Int.toNat_natCast, h2', cond_false]
      have hl := seq_loop (m := m) (s := s) (x := ((true, ()) : Bool × Unit)) (y := ((false, ()) : Bool × Unit)) (step := fun (d2 : Int × Unit) => bif ilt d2.1 (m : Int) then gd ((0 : Int) ≤ d2.1) (gd ((0 : Int) ≤ wr IntKind.i64 ((m : Int) - d2.1)) (bif !ieq (iand IntKind.i64 (ishr IntKind.i64 (s : Int) d2.1) (1 : Int)) (iand IntKind.i64 (ishr IntKind.i64 (s : Int) (wr IntKind.i64 ((m : Int) - d2.1))) (1 : Int)) then some (Lp.out ((true, ()) : Bool × Unit)) else some (Lp.go ((wr IntKind.i64 (d2.1 + (1 : Int)), ()) : Int × Unit)))) else some (Lp.out ((false, ()) : Bool × Unit))) hm5 hs (fun i h3 h4 => by
        simp only
        have e1 : wr .i64 ((m : Int) - (i : Int)) = ((m - i : Nat) : Int) := by rw [wr_id (by omega)]; omega
        rw [cond_t (ilt_iff.2 (by omega)), e1, gd_pos (by omega), gd_pos (by omega), bits_cmp hs (by omega) (by omega), cast1 (by omega)]
        unfold seqQ
        cases s.testBit i == s.testBit (m - i) <;> rfl) (by omega) (by
        simp only
        rw [cond_f (ilt_false.2 (by omega))])
      rw [hl]
      unfold seqB
      have h2'' : (s : Int) < 2 ^ m := by simpa using h2
      rw [decide_eq_true (show (0 : Int) ≤ s by omega)]
      simp only [Int.toNat_natCast, Bool.true_and, decide_eq_true h2'']
      cases (List.range (m - 1)).all fun (i : Nat) => (s.testBit (i + 1) == s.testBit (m - (i + 1))) <;> rfl
    · have : seqB m s = false := by unfold seqB; rw [decide_eq_false h2]; simp
      simp [ilt_false.2 (Int.not_lt.1 h1), ile_iff.2 (Int.not_lt.1 h2), this, gd_true, show 0 ≤ m by omega]
set_option maxRecDepth 100000 in
theorem ok92 : con92.Ok Try.prog := Con.of_goal mixed okN con92 goal92

theorem ixSeq_spec {m : Int} : ∀ {l : List Int} {i : Int}, 0 ≤ i → (0 ≤ ixSeq m l i ↔ l.all (seqB m) = false)
  | [], i, h => by simp [ixSeq]
  | x :: l, i, h => by
    rw [ixSeq]
    cases hx : seqB m x with
    | true => rw [if_pos rfl, ixSeq_spec (by omega), List.all_cons, hx, Bool.true_and]
    | false => simp [hx, h]
theorem ixSeq_go {m : Int} {l : List Int} {i : Nat} (h : i < l.length) (hq : seqB m (l.getD i 0) = true) : ixSeq m (l.drop i) i = ixSeq m (l.drop (i + 1)) (i + 1) := by
  rw [List.drop_eq_getElem_cons h, ixSeq]
  rw [gd_at h] at hq
  rw [if_pos hq]
theorem ixSeq_out {m : Int} {l : List Int} {i : Nat} (h : i < l.length) (hq : seqB m (l.getD i 0) = false) : ixSeq m (l.drop i) i = i := by
  rw [List.drop_eq_getElem_cons h, ixSeq]
  rw [gd_at h] at hq
  rw [if_neg (by rw [hq]; simp)]
abbrev St110 := QtD × Int × Unit
theorem goal110 : con110.goal Try.prog (spOf [con92]) g110_sh [] lm30 := by
  have e : (∀ (l : List Int) (q : QtD), small l → is135 q.1 = true → g110 l q = some (ixSeq q.1 l 0, ())) = con110.goal Try.prog (spOf [con92]) g110_sh [] lm30 := by kernel_rfl
  rw [← e]
  intro l q hs hq
  unfold small at hs
  unfold g110
  refine whileO_rec (fun (d : St110) => d.1 = q ∧ 0 ≤ d.2.1 ∧ d.2.1 ≤ l.length) (fun (d : St110) => l.length - d.2.1.toNat) (fun (d : St110) => (ixSeq q.1 (l.drop d.2.1.toNat) d.2.1, ())) ?_ ((q, 0, ()) : St110) ⟨rfl, by simp only; omega, by simp only; omega⟩
  rintro ⟨q', i, _⟩ ⟨rfl, h0, h1⟩
  simp only at h0 h1 hq ⊢
  obtain ⟨n, rfl⟩ : ∃ n : Nat, i = n := ⟨i.toNat, by omega⟩
  by_cases hlt : n < l.length
  · cases hx : seqB q'.1 (l.getD n 0) with
    | true =>
      right
      refine ⟨((q', ((n + 1 : Nat) : Int), ()) : St110), ?_, ⟨rfl, by simp only; omega, by simp only; omega⟩, by simp only; omega, ?_⟩
      · rw [cond_t (ilt_iff.2 (by omega)), gd_pos (by omega), gd_pos hq]
        simp only [Int.toNat_natCast, hx, cast1 (i := n) (by omega)]
        rfl
      · simp only [Int.toNat_natCast]
        rw [ixSeq_go hlt hx]; rfl
    | false =>
      left
      rw [cond_t (ilt_iff.2 (by omega)), gd_pos (by omega), gd_pos hq]
      simp only [Int.toNat_natCast, hx]
      rw [ixSeq_out hlt hx]
      rfl
  · left
    have hn : n = l.length := by omega
    rw [cond_f (ilt_false.2 (by omega))]
    simp only [Int.toNat_natCast, hn, List.drop_length, ixSeq]
set_option maxRecDepth 100000 in
theorem ok110 : con110.Ok Try.prog := Con.of_goal mixed (okC ok92 okN) con110 goal110

theorem goal91 : con91.goal Try.prog (spOf [con110]) g91_sh [] lm30 := by
  have e : (∀ (l : List Int) (q : QtD), small l → is135 q.1 = true → g91 l q = some (!l.all (seqB q.1), ())) = con91.goal Try.prog (spOf [con110]) g91_sh [] lm30 := by kernel_rfl
  rw [← e]
  intro l q hs h1
  unfold g91
  rw [gd_pos hs, gd_pos h1]
  have h := ixSeq_spec (m := q.1) (l := l) (i := 0) (by omega)
  cases ha : l.all (seqB q.1) with
  | true =>
    have : ixSeq q.1 l 0 < 0 := by
      rcases Int.lt_or_le (ixSeq q.1 l 0) 0 with h1 | h1
      · exact h1
      · have := h.1 h1; rw [ha] at this; cases this
    rw [ile_false.2 this]; rfl
  | false => rw [ile_iff.2 (h.2 ha)]; rfl
set_option maxRecDepth 100000 in
theorem ok91 : con91.Ok Try.prog := Con.of_goal mixed (okC ok110 okN) con91 goal91

theorem goal73 : con73.goal Try.prog (spOf [con91]) g73_sh [] lm30 := by
  have e : (∀ (q : QtD), g73 q = some (valQ q, ())) = con73.goal Try.prog (spOf [con91]) g73_sh [] lm30 := by kernel_rfl
  rw [← e]
  rintro ⟨m, ⟨a, b, c, d, _⟩, _⟩
  have hs : small [a, b, c, d] := small16 (by simp)
  unfold g73 valQ l4
  simp only [is135_d]
  cases h : is135 m with
  | false => simp [gd_true]
  | true => simp [gd_true, hs]
set_option maxRecDepth 100000 in
theorem ok73 : con73.Ok Try.prog := Con.of_goal mixed (okC ok91 okN) con73 goal73

/-! ### Signs -/
theorem valQ_iff {m a b c d : Int} : valQ (m, (a, b, c, d, ()), ()) = true ↔ is135 m = true ∧ seqB m a = true ∧ seqB m b = true ∧ seqB m c = true ∧ seqB m d = true := by
  unfold valQ l4
  simp [List.all_cons]
theorem sK_bd {m a b c d k : Int} (h : valQ (m, (a, b, c, d, ()), ()) = true) (h0 : 0 ≤ k) (h4 : k < 4) : 0 ≤ sK (a, b, c, d, ()) k ∧ sK (a, b, c, d, ()) k < 32 := by
  obtain ⟨hm, h1, h2, h3, h5⟩ := valQ_iff.1 h
  have b1 := seq_bd hm h1
  have b2 := seq_bd hm h2
  have b3 := seq_bd hm h3
  have b4 := seq_bd hm h5
  have : k = 0 ∨ k = 1 ∨ k = 2 ∨ k = 3 := by omega
  rcases this with rfl | rfl | rfl | rfl
  · exact b1
  · exact b2
  · exact b3
  · exact b4
theorem tmod_135 {m i : Int} (hm : m = 1 ∨ m = 3 ∨ m = 5) (h1 : -100 ≤ i) (h2 : i ≤ 100) : Int.tmod (wr .i64 (Int.tmod i m + m)) m = i % m ∧ 0 ≤ i % m ∧ i % m < m := by
  have a1 := Int.lt_tmod_of_pos i (show 0 < m by omega)
  have a2 := Int.tmod_lt_of_pos i (show 0 < m by omega)
  rw [wr_id (by omega), Int.tmod_eq_emod_of_nonneg (by omega)]
  have e1 : i.tmod m = i % m ∨ i.tmod m = i % m - m := by
    rw [Int.tmod_eq_emod]
    split
    · left; omega
    · right
      have : (m.natAbs : Int) = m := by omega
      omega
  rcases hm with rfl | rfl | rfl <;> omega
theorem sgT_eq {s i : Int} (hs : 0 ≤ s ∧ s < 65536) (hi : 0 ≤ i ∧ i < 16) : wr .i64 (1 - wr .i64 (2 * iand .i64 (ishr .i64 s i) 1)) = sgT s i := by
  obtain ⟨s, rfl⟩ : ∃ n : Nat, s = n := ⟨s.toNat, by omega⟩
  obtain ⟨i, rfl⟩ : ∃ n : Nat, i = n := ⟨i.toNat, by omega⟩
  rw [(bit_nat (by omega) (by omega)).2]
  unfold sgT bit
  simp only [Int.toNat_natCast]
  have key : ∀ a : Bool, wr .i64 (1 - wr .i64 (2 * if a = true then 1 else 0)) = if a = true then -1 else 1 := by decide
  exact key _
theorem goal77 : con77.goal Try.prog (spOf []) g77_sh [] lm30 := by
  have e : (∀ (q : QtD) (k i : Int), valQ q = true → 0 ≤ k → k < 4 → -5 ≤ i → i ≤ 10 → g77 q k i = some (sgnF q k i, ())) = con77.goal Try.prog (spOf []) g77_sh [] lm30 := by kernel_rfl
  rw [← e]
  rintro ⟨m, ⟨a, b, c, d, _⟩, _⟩ k i hq h0 h4 hi hi'
  have hm := (valQ_iff.1 hq).1
  have hm' := is135_iff.1 hm
  obtain ⟨t1, t2, t3⟩ := tmod_135 hm' (i := i) (by omega) (by omega)
  have hsb := sK_bd hq h0 h4
  have hk : List.getD (m :: a :: b :: c :: d :: ([] : List Int)) (1 + k.toNat * 1) 0 = sK (a, b, c, d, ()) k := by
    have : k = 0 ∨ k = 1 ∨ k = 2 ∨ k = 3 := by omega
    rcases this with rfl | rfl | rfl | rfl <;> rfl
  unfold g77 sgnF
  simp only [t1, hk]
  have hm0 : m ≠ 0 := by omega
  rw [gd_pos ⟨h0, h4⟩, gd_pos (by omega), gd_pos (by omega), gd_pos hm0, gd_pos (by omega), gd_pos (by omega), gd_pos hm0, gd_pos t2, sgT_eq (by omega) (by omega)]
set_option maxRecDepth 100000 in
theorem ok77 : con77.Ok Try.prog := Con.of_goal mixed okN con77 goal77

theorem sgn_mul_bd {q : QtD} {k i k' i' : Int} : -1 ≤ sgnF q k i * sgnF q k' i' ∧ sgnF q k i * sgnF q k' i' ≤ 1 := by
  unfold sgnF sgT
  split <;> split <;> decide

abbrev S1g := Int × List Int × Unit
abbrev S2g := Int × Int × List Int × Unit
section
variable {m a b c d : Int}
def QL (m a b c d : Int) : List Int := [m, a, b, c, d]
theorem in74a (h : valQ (m, (a, b, c, d, ()), ()) = true) {sh k : Nat} (hsh : (sh : Int) < m) (hk : k < 4) {A : Int} (hA : -100 ≤ A ∧ A ≤ 100) : whileO (g74_l0 (((sh : Int), QL m a b c d, ()) : S1g) ((A, (k : Int), QL m a b c d, ()) : S2g)) ((A, (0 : Int), QL m a b c d, ()) : S2g) =
    some (.go ((A + sumN (fun i => sgnF (m, (a, b, c, d, ()), ()) k i * sgnF (m, (a, b, c, d, ()), ()) k ((i : Int) + (sh : Int))) m.toNat, ((k + 1 : Nat) : Int), QL m a b c d, ()) : S2g)) := by
  have hm := is135_iff.1 (valQ_iff.1 h).1
  have hbd : ∀ j : Nat, -(j * 1 : Int) ≤ sumN (fun i => sgnF (m, (a, b, c, d, ()), ()) k i * sgnF (m, (a, b, c, d, ()), ()) k ((i : Int) + (sh : Int))) j ∧ sumN (fun i => sgnF (m, (a, b, c, d, ()), ()) k i * sgnF (m, (a, b, c, d, ()), ()) k ((i : Int) + (sh : Int))) j ≤ (j : Int) * 1 := fun j => sumN_bd fun i _ => sgn_mul_bd
  have := whileO_nat (step := g74_l0 (((sh : Int), QL m a b c d, ()) : S1g) ((A, (k : Int), QL m a b c d, ()) : S2g)) (st := fun i => ((A + sumN (fun i => sgnF (m, (a, b, c, d, ()), ()) k i * sgnF (m, (a, b, c, d, ()), ()) k ((i : Int) + (sh : Int))) i, ((i : Nat) : Int), QL m a b c d, ()) : S2g)) (lo := 0) (hi := m.toNat) (x := Lp.go ((A + sumN (fun i => sgnF (m, (a, b, c, d, ()), ()) k i * sgnF (m, (a, b, c, d, ()), ()) k ((i : Int) + (sh : Int))) m.toNat, ((k + 1 : Nat) : Int), QL m a b c d, ()) : S2g)) (by omega) (fun i _ hi => ?_) ?_
  · have hz : A + sumN (fun i => sgnF (m, (a, b, c, d, ()), ()) k i * sgnF (m, (a, b, c, d, ()), ()) k ((i : Int) + (sh : Int))) 0 = A := by rw [sumN]; omega
    simp only [hz] at this
    exact this
  · have b1 := hbd i
    have b2 := sgn_mul_bd (q := (m, (a, b, c, d, ()), ())) (k := k) (i := i) (k' := k) (i' := (i : Int) + (sh : Int))
    unfold g74_l0 QL
    simp only [List.getD_cons_zero, List.getD_cons_succ]
    have e1 : wr .i64 ((i : Int) + (sh : Int)) = (i : Int) + (sh : Int) := wr_id (by omega)
    rw [cond_t (ilt_iff.2 (by omega)), e1]
    simp only [h, gd_true, List.length_cons, List.length_nil]
    rw [gd_pos (by omega), gd_pos (by omega), gd_pos (by omega), gd_pos (by omega), gd_pos (by omega), gd_pos (by omega), gd_pos (by omega), gd_pos (by omega), gd_pos (by omega), gd_pos (by omega)]
    rw [wr_id (n := sgnF _ _ _ * sgnF _ _ _) (by omega), wr_id (by omega), cast1 (by omega), sumN, Int.add_assoc]
  · unfold g74_l0 QL
    simp only [List.getD_cons_zero]
    rw [cond_f (ilt_false.2 (by omega)), cast1 (by omega)]

theorem gsum_bd {q : QtD} {sh : Int} (hm : q.1 ≤ 5) : ∀ k : Nat, k ≤ 4 → -(k * 5 : Int) ≤ sumN (fun k => sumN (fun i => sgnF q k i * sgnF q k (i + sh)) q.1.toNat) k ∧ sumN (fun k => sumN (fun i => sgnF q k i * sgnF q k (i + sh)) q.1.toNat) k ≤ (k : Int) * 5 := fun k _ => sumN_bd fun k _ => by
  have := sumN_bd (f := fun i : Nat => sgnF q k i * sgnF q k (i + sh)) (c := 1) (n := q.1.toNat) fun i _ => sgn_mul_bd
  omega

theorem in74b (h : valQ (m, (a, b, c, d, ()), ()) = true) {sh : Nat} (hsh : (sh : Int) < m) : whileO (g74_l1 (((sh : Int), QL m a b c d, ()) : S1g)) (((0 : Int), (0 : Int), QL m a b c d, ()) : S2g) =
    some (cond (decide (gSum (m, (a, b, c, d, ()), ()) sh = 0)) (.go ((((sh + 1 : Nat) : Int), QL m a b c d, ()) : S1g)) (.out ((false, ()) : Bool × Unit))) := by
  have hm := is135_iff.1 (valQ_iff.1 h).1
  refine whileO_nat (st := fun k => ((sumN (fun k => sumN (fun i => sgnF (m, (a, b, c, d, ()), ()) k i * sgnF (m, (a, b, c, d, ()), ()) k ((i : Int) + (sh : Int))) m.toNat) k, ((k : Nat) : Int), QL m a b c d, ()) : S2g)) (lo := 0) (hi := 4) (by omega) (fun k _ hk => ?_) ?_
  · unfold g74_l1
    dsimp only
    have hb := gsum_bd (q := (m, (a, b, c, d, ()), ())) (sh := sh) (by simp only; omega) k (by omega)
    rw [cond_t (ilt_iff.2 (by omega)), gd_pos (by simp [QL])]
    exact in74a h hsh hk (by simp only at hb; omega)
  · unfold g74_l1
    dsimp only
    rw [cond_f (ilt_false.2 (by omega)), cast1 (by omega)]
    have : sumN (fun k => sumN (fun i => sgnF (m, (a, b, c, d, ()), ()) k i * sgnF (m, (a, b, c, d, ()), ()) k ((i : Int) + (sh : Int))) m.toNat) 4 = gSum (m, (a, b, c, d, ()), ()) sh := rfl
    rw [this, ieq_d]
    cases decide (gSum (m, (a, b, c, d, ()), ()) sh = 0) <;> rfl
end

theorem good_all {q : QtD} : goodF q = true ↔ ∀ i, 1 ≤ i → i < q.1.toNat → decide (gSum q (i : Int) = 0) = true := by
  unfold goodF
  rw [List.all_eq_true]
  constructor
  · intro h i h1 h2
    have := h (i - 1) (List.mem_range.2 (by omega))
    rwa [show i - 1 + 1 = i by omega] at this
  · intro h i hi
    have := List.mem_range.1 hi
    exact h (i + 1) (by omega) (by omega)
theorem goal74 : con74.goal Try.prog (spOf [con77]) g74_sh [] lm30 := by
  have e : (∀ (q : QtD), valQ q = true → g74 q = some (goodF q, ())) = con74.goal Try.prog (spOf [con77]) g74_sh [] lm30 := by kernel_rfl
  rw [← e]
  rintro ⟨m, ⟨a, b, c, d, _⟩, _⟩ h
  have hm := is135_iff.1 (valQ_iff.1 h).1
  unfold g74
  refine (whileO_chk (st := fun i : Nat => (((i : Int), QL m a b c d, ()) : S1g)) (lo := 1) (hi := m.toNat) (b := goodF (m, (a, b, c, d, ()), ())) (Q := fun i => decide (gSum (m, (a, b, c, d, ()), ()) (i : Int) = 0)) (x := ((false, ()) : Bool × Unit)) (y := ((true, ()) : Bool × Unit)) (by omega) good_all (fun i h1 hi => ?_) ?_).trans (by rw [cond_eta])
  · have hg : (QL m a b c d).getD 0 0 = m := rfl
    simp only [hg]
    rw [gd_pos (by simp [QL]), cond_t (ilt_iff.2 (by omega)), in74b h (by omega)]
  · have hg : (QL m a b c d).getD 0 0 = m := rfl
    simp only [hg]
    rw [gd_pos (by simp [QL]), cond_f (ilt_false.2 (by omega))]
set_option maxRecDepth 100000 in
theorem ok74 : con74.Ok Try.prog := Con.of_goal mixed (okC ok77 okN) con74 goal74

theorem goal35 : con35.goal Try.prog (spOf [con73, con74]) g35_sh [] lm30 := by
  have e : (∀ (m : Int) (s : A4D), g35 m s = some (goodX (m, s, ()))) = con35.goal Try.prog (spOf [con73, con74]) g35_sh [] lm30 := by kernel_rfl
  rw [← e]
  rintro m ⟨a, b, c, d, _⟩
  unfold g35 goodX
  cases h : valQ (m, (a, b, c, d, ()), ()) <;> simp [gd_true, h]
set_option maxRecDepth 100000 in
theorem ok35 : con35.Ok Try.prog := Con.of_goal mixed (okC ok73 (okC ok74 okN)) con35 goal35

theorem goal75 : con75.goal Try.prog (spOf []) g75_sh [] lm30 := by
  have e : (g75 = some (whereC, ())) = con75.goal Try.prog (spOf []) g75_sh [] lm30 := by kernel_rfl
  rw [← e]
  rfl
set_option maxRecDepth 100000 in
theorem ok75 : con75.Ok Try.prog := Con.of_goal mixed okN con75 goal75

end Go.Signs

set_option linter.unusedVariables false
set_option linter.unusedSimpArgs false
namespace Go.Signs
open Go Go.Ab Go.Proofs

theorem where_tab : ∀ a : Nat, a < 4 → ∀ b : Nat, b < 4 → (@id BkD (arrGet 4 Bk (@id R4D (arrGet 4 R4 whereC a)) b)) = (blkX a b, isNeg a b, ()) := by decide +kernel
theorem blk_bd : ∀ a : Nat, a < 4 → ∀ b : Nat, b < 4 → 0 ≤ blkX a b ∧ blkX a b < 4 := by decide +kernel

theorem goal76 : con76.goal Try.prog (spOf [con77]) g76_sh [] lm30 := by
  have e : (∀ (i j : Int) (w : W4D) (m : Int) (q : QtD), w = whereC → m = q.1 → valQ q = true → 0 ≤ i → i < 4 * m → 0 ≤ j → j < 4 * m → g76 i j w m q = some (arrB q i j, ())) = con76.goal Try.prog (spOf [con77]) g76_sh [] lm30 := by kernel_rfl
  rw [← e]
  rintro i j w m q rfl rfl hq hi hi' hj hj'
  obtain ⟨m, ⟨a, b, c, d, _⟩, _⟩ := q
  simp only at hi' hj' ⊢
  have hm := is135_iff.1 (valQ_iff.1 hq).1
  obtain ⟨i, rfl⟩ : ∃ k : Nat, i = k := ⟨i.toNat, by omega⟩
  obtain ⟨j, rfl⟩ : ∃ k : Nat, j = k := ⟨j.toNat, by omega⟩
  obtain ⟨m, rfl⟩ : ∃ k : Nat, m = k := ⟨m.toNat, by omega⟩
  have hm0 : 0 < m := by omega
  have d1 : i / m < 4 := Nat.div_lt_of_lt_mul (by omega)
  have d2 : j / m < 4 := Nat.div_lt_of_lt_mul (by omega)
  have m1 := Nat.mod_lt i hm0
  have m2 := Nat.mod_lt j hm0
  unfold g76 arrB
  simp only [tdiv_nat, tmod_nat]
  rw [wri (by omega), wri (by omega)]
  simp only [Int.toNat_natCast]
  have ht := where_tab (i / m) d1 (j / m) d2
  have hb := blk_bd (i / m) d1 (j / m) d2
  have hw : wr .i64 (((j % m : Nat) : Int) - ((i % m : Nat) : Int)) = ((j % m : Nat) : Int) - ((i % m : Nat) : Int) := wr_id (by omega)
  rw [gd_pos (by omega), gd_pos (by omega), gd_pos ⟨Int.natCast_nonneg _, by omega⟩, gd_pos ⟨Int.natCast_nonneg _, by omega⟩, gd_pos (by omega), gd_pos (by omega), gd_pos hq, hw]
  erw [ht]
  dsimp only
  rw [gd_pos hb.1, gd_pos hb.2, gd_pos (by omega), gd_pos (by omega)]
  have e1 : (i : Int) / (m : Int) = ((i / m : Nat) : Int) := rfl
  have e2 : (j : Int) / (m : Int) = ((j / m : Nat) : Int) := rfl
  have e3 : (i : Int) % (m : Int) = ((i % m : Nat) : Int) := rfl
  have e4 : (j : Int) % (m : Int) = ((j % m : Nat) : Int) := rfl
  rw [e1, e2, e3, e4, ilt_d]
  cases decide (sgnF (((m : Nat) : Int), (a, b, c, d, ()), ()) (blkX ((i / m : Nat) : Int) ((j / m : Nat) : Int)) (((j % m : Nat) : Int) - ((i % m : Nat) : Int)) < 0) <;> cases isNeg ((i / m : Nat) : Int) ((j / m : Nat) : Int) <;> rfl
set_option maxRecDepth 100000 in
theorem ok76 : con76.Ok Try.prog := Con.of_goal mixed (okC ok77 okN) con76 goal76

abbrev StA := W4D × Int × QtD × Int × List Int × Unit
theorem in59a {q : QtD} (hq : valQ q = true) {n i : Nat} (hn : (n : Int) = 4 * q.1) (hn16 : n ≤ 16) (hi : i < n) {f : Int → Int → Bool} (hf : f = arrB q) :
    whileO (g59a_l0 (n : Int) ((whereC, q.1, q, (i : Int), partL n f i 0, ()) : StA)) ((whereC, q.1, q, (0 : Int), partL n f i 0, ()) : StA) = some (.go ((whereC, q.1, q, ((i + 1 : Nat) : Int), partL n f (i + 1) 0, ()) : StA)) := by
  refine whileO_nat (st := fun j => ((whereC, q.1, q, ((j : Nat) : Int), partL n f i j, ()) : StA)) (lo := 0) (hi := n) (by omega) (fun j _ hj => ?_) ?_
  · unfold g59a_l0
    dsimp only
    have hl : (partL n f i j).length = n := part_len
    rw [cond_t (ilt_iff.2 (by omega)), gd_pos rfl, gd_pos rfl, gd_pos hq, gd_pos (by omega), gd_pos (by omega), gd_pos (by omega), gd_pos (by omega)]
    cases h : f i j with
    | true =>
      have h' := h
      rw [hf] at h'
      rw [h', cond_t rfl]
      simp only [hl, Int.toNat_natCast, List.length_set, gd_true]
      rw [gd_pos (by omega), gd_pos (by omega), gd_pos (by omega), gd_pos (by omega), gd_pos (by omega)]
      have := part_or hn16 hi hj h
      rw [Int.toNat_natCast] at this
      rw [this, cast1 (by omega)]
    | false =>
      have h' := h
      rw [hf] at h'
      rw [h', cond_f rfl]
      simp only [gd_true]
      rw [part_no hi h, cast1 (by omega)]
  · unfold g59a_l0
    dsimp only
    rw [cond_f (ilt_false.2 (by omega))]
    simp only [gd_true]
    rw [part_next, cast1 (by omega)]

theorem goal59a : con59a.goal Try.prog (spOf [con76]) g59a_sh [] lm30 := by
  have e : (∀ (n : Int) (w : W4D) (m : Int) (q : QtD), w = whereC → m = q.1 → valQ q = true → n = 4 * m → n ≤ 16 → g59a n w m q = some (madeF n.toNat (arrB q), ())) = con59a.goal Try.prog (spOf [con76]) g59a_sh [] lm30 := by kernel_rfl
  rw [← e]
  rintro n w m q rfl rfl hq hn hn16
  have hm : q.1 = 1 ∨ q.1 = 3 ∨ q.1 = 5 := by
    obtain ⟨m', ⟨a, b, c, d, _⟩, _⟩ := q
    exact is135_iff.1 (valQ_iff.1 hq).1
  obtain ⟨n, rfl⟩ : ∃ k : Nat, n = k := ⟨n.toNat, by omega⟩
  unfold g59a
  rw [Int.toNat_natCast, gd_pos (by omega), gd_pos (by simp), ← part_0 (f := arrB q)]
  refine whileO_nat (st := fun i => ((whereC, q.1, q, ((i : Nat) : Int), partL n (arrB q) i 0, ()) : StA)) (lo := 0) (hi := n) (by omega) (fun i _ hi => ?_) ?_
  · simp only
    rw [cond_t (ilt_iff.2 (by omega)), gd_true, in59a hq hn (by omega) hi rfl]
  · simp only
    rw [cond_f (ilt_false.2 (by omega)), gd_pos (by omega), take_all, part_end]
set_option maxRecDepth 100000 in
theorem ok59a : con59a.Ok Try.prog := Con.of_goal mixed (okC ok76 okN) con59a goal59a

theorem goal36 : con36.goal Try.prog (spOf [con73, con75, con59a]) g36_sh [] lm30 := by
  have e : (∀ (m : Int) (s : A4D), g36 m s = some (arrX (m, s, ()))) = con36.goal Try.prog (spOf [con73, con75, con59a]) g36_sh [] lm30 := by kernel_rfl
  rw [← e]
  rintro m ⟨a, b, c, d, _⟩
  unfold g36 arrX
  cases h : valQ (m, (a, b, c, d, ()), ()) with
  | false => simp [gd_true, h]
  | true =>
    have hm := is135_iff.1 (valQ_iff.1 h).1
    have hw : wr .i64 (4 * m) = 4 * m := wr_id (by omega)
    simp only [Nat.le_refl, gd_true, h, Bool.not_true, cond_false, if_true, hw]
    by_cases h4 : m ≤ 4
    · rw [cond_f (ilt_false.2 (by omega)), if_pos h4, gd_pos (by omega)]
      rfl
    · rw [cond_t (ilt_iff.2 (by omega)), if_neg h4]
set_option maxRecDepth 100000 in
theorem ok36 : con36.Ok Try.prog := Con.of_goal mixed (okC ok73 (okC ok75 (okC ok59a okN))) con36 goal36

/-! ### The reference -/
end Go.Signs

set_option linter.unusedVariables false
set_option linter.unusedSimpArgs false
namespace Go.Signs
open Go Go.Ab Go.Proofs

/-! ### Products of circulants -/
section
variable {m a b c d : Int}
theorem sK_seq {k : Nat} (h : valQ (m, (a, b, c, d, ()), ()) = true) (hk : k < 4) : seqB m (sK (a, b, c, d, ()) k) = true := by
  obtain ⟨hm, h1, h2, h3, h4⟩ := valQ_iff.1 h
  have : k = 0 ∨ k = 1 ∨ k = 2 ∨ k = 3 := by omega
  rcases this with rfl | rfl | rfl | rfl
  · exact h1
  · exact h2
  · exact h3
  · exact h4
/-! ### The loops -/
theorem arr_sK {k : Nat} (hk : k < 4) : (@id Int (arrGet 4 (.int .i64) ((a, b, c, d, ()) : A4D) k)) = sK (a, b, c, d, ()) k := by
  have : k = 0 ∨ k = 1 ∨ k = 2 ∨ k = 3 := by omega
  rcases this with rfl | rfl | rfl | rfl <;> rfl
end

/-! ### Array -/
section
variable {m : Nat} {a b c d : Int}
end

end Go.Signs
