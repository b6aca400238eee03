/- Greatest slices: contracts. -/
import Derived.Test.YtiiiojjaphckbaaXQ
import Derived.Test.YtiiiojjaphckbaaSS
set_option linter.unusedVariables false
set_option linter.unusedSimpArgs false
namespace Go.Caps
open Go Go.Ab Go.Proofs

/-! Long: numbers without progressions. -/
def mayT (l : List Int) (x : Int) : Bool := stepsF (l ++ [x])
def mayTP (l : List Int) (x : Int) : Prop := (l ++ [x]).length ≤ 1000 ∧ ris (l ++ [x]) = true ∧ ∀ y ∈ l ++ [x], 0 ≤ y ∧ y ≤ 1000
noncomputable def con54l : SCon := mkS 54 [.sl 0 1 0] [.arr I64 true] [.slf 1 1] [.arr I64 true, .arr I64 true] (fun (len : Int) (a : List Int) => [0 ≤ len ∧ len ≤ 100000 ∧ len ≤ a.length]) (fun (len : Int) (a : List Int) => (a, a.take len.toNat, ()))
noncomputable def g54l (x0 : Int) (x1 : List Int) : Option (List Int × List Int × Unit) := Option.map id (eqO (Int.toNat x0 = (0 : Nat)) (gd ((0 : Nat) = (0 : Nat)) (some ((x1, ([] : List Int), ()) : List Int × List Int × Unit))) (gd ((0 : Nat) + Int.toNat x0 ≤ List.length x1) (gd ((0 : Nat) ≤ (0 : Nat)) (gd (((0 : Nat) + List.length (List.take (Int.toNat x0) (List.drop (0 : Nat) x1))) * (8 : Nat) ≤ (1099511627776 : Nat)) (gd ((0 : Nat) + List.length (List.take (Int.toNat x0) (List.drop (0 : Nat) x1)) = List.length (List.take (Int.toNat x0) (List.drop (0 : Nat) x1))) (some ((x1, List.take (Int.toNat x0) (List.drop (0 : Nat) x1), ()) : List Int × List Int × Unit)))))))
noncomputable def g54l_sh : List LSh := ([] : List LSh)
def inA (len : Int) (a : List Int) : Prop := 0 ≤ len ∧ len ≤ 1000 ∧ len ≤ a.length
abbrev A96 : List TV := [.sl 1 1 0, .v I64, .ref 0 1 0 0]
abbrev I96t : List TB := [.cells [.fn 70 .nil], .arr I64 true]
noncomputable def con96t : SCon := mkS 96 A96 I96t [.v .bool] I96t (fun (len x : Int) (a : List Int) => [inA len a, mayTP (a.take len.toNat) x]) (fun (len x : Int) (a : List Int) => (mayT (a.take len.toNat) x, a, ()))
noncomputable def g96t (x0 x1 : Int) (x2 : List Int) : Option (Bool × List Int × Unit) := gd ((0 : Int) ≤ (↑(Int.toNat x0) : Int) ∧ (↑(Int.toNat x0) : Int) ≤ (100000 : Int) ∧ (↑(Int.toNat x0) : Int) ≤ (↑(List.length x2) : Int)) (gd (List.length (List.take (Int.toNat x0) x2) ≤ List.length (List.take (Int.toNat x0) x2)) (gd ((List.length (List.take (Int.toNat x0) x2) + (1 : Nat)) * (8 : Nat) ≤ (1099511627776 : Nat)) (gd ((0 : Nat) + (List.length (List.take (Int.toNat x0) x2) + (1 : Nat)) ≤ List.length (List.take (List.length (List.take (Int.toNat x0) x2)) (List.take (Int.toNat x0) x2) ++ x1 :: ([] : List Int))) (gd (List.length (List.take (List.length (List.take (Int.toNat x0) x2) + (1 : Nat)) (List.drop (0 : Nat) (List.take (List.length (List.take (Int.toNat x0) x2)) (List.take (Int.toNat x0) x2) ++ x1 :: ([] : List Int)))) ≤ (1000 : Nat)) (gd (ris (List.take (List.length (List.take (Int.toNat x0) x2) + (1 : Nat)) (List.drop (0 : Nat) (List.take (List.length (List.take (Int.toNat x0) x2)) (List.take (Int.toNat x0) x2) ++ x1 :: ([] : List Int)))) = true) (gd (∀ (x3 : Int), List.Mem x3 (List.take (List.length (List.take (Int.toNat x0) x2) + (1 : Nat)) (List.drop (0 : Nat) (List.take (List.length (List.take (Int.toNat x0) x2)) (List.take (Int.toNat x0) x2) ++ x1 :: ([] : List Int)))) → (0 : Int) ≤ x3 ∧ x3 ≤ (1000 : Int)) (some ((stepsF (List.take (List.length (List.take (Int.toNat x0) x2) + (1 : Nat)) (List.drop (0 : Nat) (List.take (List.length (List.take (Int.toNat x0) x2)) (List.take (Int.toNat x0) x2) ++ x1 :: ([] : List Int)))), x2, ()) : Bool × List Int × Unit))))))))
noncomputable def g96t_sh : List LSh := ([] : List LSh)
abbrev B96t : List TB := [.cells [.fn 70 .nil]]
abbrev I99t : List TB := [.cells [.sl 6 1 0], .cells [.v I64], .cells [.v I64], .cells [.fn 96 (.cons (.ref 5 1 0 0) .nil)], .cells [Gr99], .cells [.fn 70 .nil], .arr I64 true]
abbrev O99t : List TB := [.cells [.sl 7 1 0], .cells [.v I64], .cells [.v I64], .cells [.fn 96 (.cons (.ref 5 1 0 0) .nil)], .cells [Gr99], .cells [.fn 70 .nil], .dead, .arr I64 true]
noncomputable def con99t (f : Nat) : SCon := mkS 99 A99 I99t [.v .bool] O99t (fun (frm len size n : Int) (a : List Int) => [pre99 f frm len n size a]) (fun (frm len size n : Int) (a : List Int) => ((growF mayT n size f frm len a).1, (growF mayT n size f frm len a).2.1, size, n, (growF mayT n size f frm len a).2.2.1, ()))
noncomputable def g99t (f : Nat) (x0 x1 x2 x3 : Int) (x4 : List Int) : Option (Bool × Int × Int × Int × List Int × Unit) := bif ieq (↑(Int.toNat x1) : Int) x2 then some ((true, (↑(Int.toNat x1) : Int), x2, x3, x4, ()) : Bool × Int × Int × Int × List Int × Unit) else whileO (fun (d6 : Int × Int × Int × Int × List Int × Unit) => bif ile d6.1 (wr IntKind.i64 (d6.2.2.2.1 - wr IntKind.i64 (d6.2.2.1 - (↑(Int.toNat d6.2.1) : Int)))) then gd (inA (↑(Int.toNat d6.2.1) : Int) d6.2.2.2.2.1) (gd (mayTP (List.take (Int.toNat d6.2.1) d6.2.2.2.2.1) d6.1) (bif mayT (List.take (Int.toNat d6.2.1) d6.2.2.2.2.1) d6.1 then gd (Int.toNat d6.2.1 ≤ List.length d6.2.2.2.2.1) (gd ((Int.toNat d6.2.1 + (1 : Nat)) * (8 : Nat) ≤ (1099511627776 : Nat)) (gd (pre99 f (wr IntKind.i64 (d6.1 + (1 : Int))) (↑(Int.toNat d6.2.1 + (1 : Nat)) : Int) d6.2.2.2.1 d6.2.2.1 (List.take (Int.toNat d6.2.1) d6.2.2.2.2.1 ++ d6.1 :: ([] : List Int))) (bif (growF mayT d6.2.2.2.1 d6.2.2.1 f (wr IntKind.i64 (d6.1 + (1 : Int))) (↑(Int.toNat d6.2.1 + (1 : Nat)) : Int) (List.take (Int.toNat d6.2.1) d6.2.2.2.2.1 ++ d6.1 :: ([] : List Int))).1 then some (Lp.out ((true, (↑(Int.toNat (growF mayT d6.2.2.2.1 d6.2.2.1 f (wr IntKind.i64 (d6.1 + (1 : Int))) (↑(Int.toNat d6.2.1 + (1 : Nat)) : Int) (List.take (Int.toNat d6.2.1) d6.2.2.2.2.1 ++ d6.1 :: ([] : List Int))).2.1) : Int), d6.2.2.1, d6.2.2.2.1, (growF mayT d6.2.2.2.1 d6.2.2.1 f (wr IntKind.i64 (d6.1 + (1 : Int))) (↑(Int.toNat d6.2.1 + (1 : Nat)) : Int) (List.take (Int.toNat d6.2.1) d6.2.2.2.2.1 ++ d6.1 :: ([] : List Int))).2.2.1, ()) : Bool × Int × Int × Int × List Int × Unit)) else gd ((0 : Int) ≤ wr IntKind.i64 ((↑(Int.toNat (growF mayT d6.2.2.2.1 d6.2.2.1 f (wr IntKind.i64 (d6.1 + (1 : Int))) (↑(Int.toNat d6.2.1 + (1 : Nat)) : Int) (List.take (Int.toNat d6.2.1) d6.2.2.2.2.1 ++ d6.1 :: ([] : List Int))).2.1) : Int) - (1 : Int)) ∧ wr IntKind.i64 ((↑(Int.toNat (growF mayT d6.2.2.2.1 d6.2.2.1 f (wr IntKind.i64 (d6.1 + (1 : Int))) (↑(Int.toNat d6.2.1 + (1 : Nat)) : Int) (List.take (Int.toNat d6.2.1) d6.2.2.2.2.1 ++ d6.1 :: ([] : List Int))).2.1) : Int) - (1 : Int)) ≤ (↑(Int.toNat (growF mayT d6.2.2.2.1 d6.2.2.1 f (wr IntKind.i64 (d6.1 + (1 : Int))) (↑(Int.toNat d6.2.1 + (1 : Nat)) : Int) (List.take (Int.toNat d6.2.1) d6.2.2.2.2.1 ++ d6.1 :: ([] : List Int))).2.1) : Int)) (some (Lp.go ((wr IntKind.i64 (d6.1 + (1 : Int)), (↑(Int.toNat (wr IntKind.i64 ((↑(Int.toNat (growF mayT d6.2.2.2.1 d6.2.2.1 f (wr IntKind.i64 (d6.1 + (1 : Int))) (↑(Int.toNat d6.2.1 + (1 : Nat)) : Int) (List.take (Int.toNat d6.2.1) d6.2.2.2.2.1 ++ d6.1 :: ([] : List Int))).2.1) : Int) - (1 : Int)))) : Int), d6.2.2.1, d6.2.2.2.1, (growF mayT d6.2.2.2.1 d6.2.2.1 f (wr IntKind.i64 (d6.1 + (1 : Int))) (↑(Int.toNat d6.2.1 + (1 : Nat)) : Int) (List.take (Int.toNat d6.2.1) d6.2.2.2.2.1 ++ d6.1 :: ([] : List Int))).2.2.1, ()) : Int × Int × Int × Int × List Int × Unit)))))) else some (Lp.go ((wr IntKind.i64 (d6.1 + (1 : Int)), (↑(Int.toNat d6.2.1) : Int), d6.2.2.1, d6.2.2.2.1, d6.2.2.2.2.1, ()) : Int × Int × Int × Int × List Int × Unit)))) else some (Lp.out ((false, (↑(Int.toNat d6.2.1) : Int), d6.2.2.1, d6.2.2.2.1, d6.2.2.2.2.1, ()) : Bool × Int × Int × Int × List Int × Unit))) ((x0, (↑(Int.toNat x1) : Int), x2, x3, x4, ()) : Int × Int × Int × Int × List Int × Unit)
noncomputable def g99t_sh : List LSh := LSh.mk3 (((1, TV.ref (0) (1 : Nat) (0 : Nat) (0 : Nat)) : Nat × TV) :: ((2, TV.ref (1) (1 : Nat) (0 : Nat) (0 : Nat)) : Nat × TV) :: ((3, TV.ref (2) (1 : Nat) (0 : Nat) (0 : Nat)) : Nat × TV) :: ((4, TV.ref (3) (1 : Nat) (0 : Nat) (0 : Nat)) : Nat × TV) :: ((5, TV.ref (4) (1 : Nat) (0 : Nat) (0 : Nat)) : Nat × TV) :: ((8, TV.v (Ty.int IntKind.i64)) : Nat × TV) :: ([] : List (Nat × TV))) (TB.cells (TV.sl (7) (1) (0) :: ([] : List TV)) :: TB.cells (TV.v (Ty.int IntKind.i64) :: ([] : List TV)) :: TB.cells (TV.v (Ty.int IntKind.i64) :: ([] : List TV)) :: TB.cells (TV.fn (96) (TV.cons (TV.ref (5) (1 : Nat) (0 : Nat) (0 : Nat)) TV.nil) :: ([] : List TV)) :: TB.cells (TV.fn (99) (TV.cons (TV.ref (0) (1 : Nat) (0 : Nat) (0 : Nat)) (TV.cons (TV.ref (1) (1 : Nat) (0 : Nat) (0 : Nat)) (TV.cons (TV.ref (2) (1 : Nat) (0 : Nat) (0 : Nat)) (TV.cons (TV.ref (3) (1 : Nat) (0 : Nat) (0 : Nat)) (TV.cons (TV.ref (4) (1 : Nat) (0 : Nat) (0 : Nat)) TV.nil))))) :: ([] : List TV)) :: TB.cells (TV.fn (70) TV.nil :: ([] : List TV)) :: TB.dead :: TB.arr (Ty.int IntKind.i64) true :: ([] : List TB)) (7) :: ([] : List LSh)
def srT (n size : Int) : Srch := growF mayT n size 62 0 0 []
noncomputable def con77t : SCon := mkS 77 [.v I64, .v I64, .fn 96 (.cons (.ref 0 1 0 0) .nil)] B96t [.opt (.v LI)] B96t (fun (n size : Int) => [1 ≤ size ∧ size ≤ 60 ∧ 0 ≤ n ∧ n ≤ 100]) (fun (n size : Int) => (!(srT n size).1, bif (srT n size).1 then foundL (srT n size) else [], ()))
noncomputable def g77t (x0 x1 : Int) : Option (Bool × List Int × Unit) := gd (pre99 (62 : Nat) (0 : Int) (0 : Int) x0 x1 ([] : List Int)) (bif !(growF mayT x0 x1 (62 : Nat) (0 : Int) (0 : Int) ([] : List Int)).1 then gd (true = true) (some ((true, ([] : List Int), ()) : Bool × List Int × Unit)) else gd ((0 : Nat) + Int.toNat (growF mayT x0 x1 (62 : Nat) (0 : Int) (0 : Int) ([] : List Int)).2.1 ≤ List.length (growF mayT x0 x1 (62 : Nat) (0 : Int) (0 : Int) ([] : List Int)).2.2.1) (gd (List.length (List.take (Int.toNat (growF mayT x0 x1 (62 : Nat) (0 : Int) (0 : Int) ([] : List Int)).2.1) (List.drop (0 : Nat) (growF mayT x0 x1 (62 : Nat) (0 : Int) (0 : Int) ([] : List Int)).2.2.1)) ≠ (0 : Nat)) (some ((false, List.take (Int.toNat (growF mayT x0 x1 (62 : Nat) (0 : Int) (0 : Int) ([] : List Int)).2.1) (List.drop (0 : Nat) (growF mayT x0 x1 (62 : Nat) (0 : Int) (0 : Int) ([] : List Int)).2.2.1), ()) : Bool × List Int × Unit))))
noncomputable def g77t_sh : List LSh := ([] : List LSh)
def mostL (S : Int → Srch) : Nat → List Int → List Int
  | 0, best => best
  | f + 1, best => if (S (best.length + 1)).1 = true then mostL S f (foundL (S (best.length + 1))) else best
noncomputable def con69t : SCon := mkS 69 [.v I64, .fn 70 .nil] [] [.v LI] [] (fun (n : Int) => [0 ≤ n ∧ n ≤ 50]) (fun (n : Int) => (mostL (srT n) 62 [], ()))
noncomputable def g69t (x0 : Int) : Option (List Int × Unit) := whileO (fun (d1 : List Int × Unit) => gd ((1 : Int) ≤ wr IntKind.i64 ((↑(List.length d1.1) : Int) + (1 : Int)) ∧ wr IntKind.i64 ((↑(List.length d1.1) : Int) + (1 : Int)) ≤ (60 : Int) ∧ (0 : Int) ≤ x0 ∧ x0 ≤ (100 : Int)) (bif !(srT x0 (wr IntKind.i64 ((↑(List.length d1.1) : Int) + (1 : Int)))).1 then some (Lp.out ((d1.1, ()) : List Int × Unit)) else some (Lp.go ((bif !(srT x0 (wr IntKind.i64 ((↑(List.length d1.1) : Int) + (1 : Int)))).1 then ([] : List Int) else bif (srT x0 (wr IntKind.i64 ((↑(List.length d1.1) : Int) + (1 : Int)))).1 then foundL (srT x0 (wr IntKind.i64 ((↑(List.length d1.1) : Int) + (1 : Int)))) else ([] : List Int), ()) : List Int × Unit)))) ((([] : List Int), ()) : List Int × Unit)
noncomputable def g69t_sh : List LSh := LSh.mk (((3, TV.ref (0) (1 : Nat) (0 : Nat) (0 : Nat)) : Nat × TV) :: ((5, TV.v (Ty.slice (Ty.int IntKind.i64))) : Nat × TV) :: ([] : List (Nat × TV))) (TB.cells (TV.fn (70) TV.nil :: ([] : List TV)) :: ([] : List TB)) :: ([] : List LSh)
def longX (n : Int) : Int × Int × Unit := if decide (1 ≤ n) && decide (n ≤ 24) then (((mostL (srT n) 62 []).length : Int), 0, ()) else (0, 2, ())
noncomputable def con32 : Con := mkC 32 [.d I64] [I64, I64] (fun (n : Int) => []) (fun (n : Int) => longX n)
noncomputable def g32 (x0 : Int) : Option (Int × Int × Unit) := gd ((!ilt x0 (1 : Int)) = true → (!ilt x0 (1 : Int)) = true) (gd (ilt x0 (1 : Int) = false → (!ilt x0 (1 : Int)) = true) (bif bif ilt x0 (1 : Int) then true else ilt (24 : Int) x0 then some (((0 : Int), (2 : Int), ()) : Int × Int × Unit) else gd ((0 : Int) ≤ x0 ∧ x0 ≤ (50 : Int)) (some (((↑(List.length (mostL (srT x0) (62 : Nat) ([] : List Int))) : Int), (0 : Int), ()) : Int × Int × Unit))))
noncomputable def g32_sh : List LSh := ([] : List LSh)


/-! Most: numbers with different differences. -/
noncomputable def con84 : Con := mkC 84 [.d LI, .d (.ptr I64)] [.bool] (fun (l : List Int) (n : Int) => [okR n l = true]) (fun (l : List Int) (n : Int) => (nodK (diffs n l), ()))
noncomputable def g84 (x0 : List Int) (x1 : Int) : Option (Bool × Unit) := gd (okR x1 x0 = true) (some ((nodK (diffs x1 x0), ()) : Bool × Unit))
noncomputable def g84_sh : List LSh := ([] : List LSh)
def mayM (n : Int) (l : List Int) (x : Int) : Bool := nodK (diffs n (l ++ [x]))
def mayRP (n : Int) (l : List Int) (x : Int) : Prop := okR n (l ++ [x]) = true
abbrev I96m : List TB := [.cells [.fn 84 (.cons (.ref 2 1 0 0) .nil)], .arr I64 true, .cells [.v I64]]
noncomputable def con96m : SCon := mkS 96 A96 I96m [.v .bool] I96m (fun (len x : Int) (a : List Int) (q : Int) => [inA len a, mayRP q (a.take len.toNat) x]) (fun (len x : Int) (a : List Int) (q : Int) => (mayM q (a.take len.toNat) x, a, q, ()))
noncomputable def g96m (x0 x1 : Int) (x2 : List Int) (x3 : Int) : Option (Bool × List Int × Int × Unit) := gd ((0 : Int) ≤ (↑(Int.toNat x0) : Int) ∧ (↑(Int.toNat x0) : Int) ≤ (100000 : Int) ∧ (↑(Int.toNat x0) : Int) ≤ (↑(List.length x2) : Int)) (gd (List.length (List.take (Int.toNat x0) x2) ≤ List.length (List.take (Int.toNat x0) x2)) (gd ((List.length (List.take (Int.toNat x0) x2) + (1 : Nat)) * (8 : Nat) ≤ (1099511627776 : Nat)) (gd ((0 : Nat) + (List.length (List.take (Int.toNat x0) x2) + (1 : Nat)) ≤ List.length (List.take (List.length (List.take (Int.toNat x0) x2)) (List.take (Int.toNat x0) x2) ++ x1 :: ([] : List Int))) (gd (okR x3 (List.take (List.length (List.take (Int.toNat x0) x2) + (1 : Nat)) (List.drop (0 : Nat) (List.take (List.length (List.take (Int.toNat x0) x2)) (List.take (Int.toNat x0) x2) ++ x1 :: ([] : List Int)))) = true) (some ((nodK (diffs x3 (List.take (List.length (List.take (Int.toNat x0) x2) + (1 : Nat)) (List.drop (0 : Nat) (List.take (List.length (List.take (Int.toNat x0) x2)) (List.take (Int.toNat x0) x2) ++ x1 :: ([] : List Int))))), x2, x3, ()) : Bool × List Int × Int × Unit))))))
noncomputable def g96m_sh : List LSh := ([] : List LSh)
abbrev B96m : List TB := [.cells [.fn 84 (.cons (.ref 1 1 0 0) .nil)], .cells [.v I64]]
abbrev I99m : List TB := [.cells [.sl 7 1 0], .cells [.v I64], .cells [.v I64], .cells [.fn 96 (.cons (.ref 5 1 0 0) .nil)], .cells [Gr99], .cells [.fn 84 (.cons (.ref 6 1 0 0) .nil)], .cells [.v I64], .arr I64 true]
abbrev O99m : List TB := [.cells [.sl 8 1 0], .cells [.v I64], .cells [.v I64], .cells [.fn 96 (.cons (.ref 5 1 0 0) .nil)], .cells [Gr99], .cells [.fn 84 (.cons (.ref 6 1 0 0) .nil)], .cells [.v I64], .dead, .arr I64 true]
def qOk (n q : Int) : Prop := 2 ≤ q ∧ q ≤ 40 ∧ n = q
noncomputable def con99m (f : Nat) : SCon := mkS 99 A99 I99m [.v .bool] O99m (fun (frm len size n q : Int) (a : List Int) => [pre99 f frm len n size a, qOk n q]) (fun (frm len size n q : Int) (a : List Int) => ((growF (mayM q) n size f frm len a).1, (growF (mayM q) n size f frm len a).2.1, size, n, q, (growF (mayM q) n size f frm len a).2.2.1, ()))
noncomputable def g99m (f : Nat) (x0 x1 x2 x3 x4 : Int) (x5 : List Int) : Option (Bool × Int × Int × Int × Int × List Int × Unit) := bif ieq (↑(Int.toNat x1) : Int) x2 then some ((true, (↑(Int.toNat x1) : Int), x2, x3, x4, x5, ()) : Bool × Int × Int × Int × Int × List Int × Unit) else whileO (fun (d7 : Int × Int × Int × Int × Int × List Int × Unit) => bif ile d7.1 (wr IntKind.i64 (d7.2.2.2.1 - wr IntKind.i64 (d7.2.2.1 - (↑(Int.toNat d7.2.1) : Int)))) then gd (inA (↑(Int.toNat d7.2.1) : Int) d7.2.2.2.2.2.1) (gd (mayRP d7.2.2.2.2.1 (List.take (Int.toNat d7.2.1) d7.2.2.2.2.2.1) d7.1) (bif mayM d7.2.2.2.2.1 (List.take (Int.toNat d7.2.1) d7.2.2.2.2.2.1) d7.1 then gd (Int.toNat d7.2.1 ≤ List.length d7.2.2.2.2.2.1) (gd ((Int.toNat d7.2.1 + (1 : Nat)) * (8 : Nat) ≤ (1099511627776 : Nat)) (gd (pre99 f (wr IntKind.i64 (d7.1 + (1 : Int))) (↑(Int.toNat d7.2.1 + (1 : Nat)) : Int) d7.2.2.2.1 d7.2.2.1 (List.take (Int.toNat d7.2.1) d7.2.2.2.2.2.1 ++ d7.1 :: ([] : List Int))) (gd (qOk d7.2.2.2.1 d7.2.2.2.2.1) (bif (growF (mayM d7.2.2.2.2.1) d7.2.2.2.1 d7.2.2.1 f (wr IntKind.i64 (d7.1 + (1 : Int))) (↑(Int.toNat d7.2.1 + (1 : Nat)) : Int) (List.take (Int.toNat d7.2.1) d7.2.2.2.2.2.1 ++ d7.1 :: ([] : List Int))).1 then some (Lp.out ((true, (↑(Int.toNat (growF (mayM d7.2.2.2.2.1) d7.2.2.2.1 d7.2.2.1 f (wr IntKind.i64 (d7.1 + (1 : Int))) (↑(Int.toNat d7.2.1 + (1 : Nat)) : Int) (List.take (Int.toNat d7.2.1) d7.2.2.2.2.2.1 ++ d7.1 :: ([] : List Int))).2.1) : Int), d7.2.2.1, d7.2.2.2.1, d7.2.2.2.2.1, (growF (mayM d7.2.2.2.2.1) d7.2.2.2.1 d7.2.2.1 f (wr IntKind.i64 (d7.1 + (1 : Int))) (↑(Int.toNat d7.2.1 + (1 : Nat)) : Int) (List.take (Int.toNat d7.2.1) d7.2.2.2.2.2.1 ++ d7.1 :: ([] : List Int))).2.2.1, ()) : Bool × Int × Int × Int × Int × List Int × Unit)) else gd ((0 : Int) ≤ wr IntKind.i64 ((↑(Int.toNat (growF (mayM d7.2.2.2.2.1) d7.2.2.2.1 d7.2.2.1 f (wr IntKind.i64 (d7.1 + (1 : Int))) (↑(Int.toNat d7.2.1 + (1 : Nat)) : Int) (List.take (Int.toNat d7.2.1) d7.2.2.2.2.2.1 ++ d7.1 :: ([] : List Int))).2.1) : Int) - (1 : Int)) ∧ wr IntKind.i64 ((↑(Int.toNat (growF (mayM d7.2.2.2.2.1) d7.2.2.2.1 d7.2.2.1 f (wr IntKind.i64 (d7.1 + (1 : Int))) (↑(Int.toNat d7.2.1 + (1 : Nat)) : Int) (List.take (Int.toNat d7.2.1) d7.2.2.2.2.2.1 ++ d7.1 :: ([] : List Int))).2.1) : Int) - (1 : Int)) ≤ (↑(Int.toNat (growF (mayM d7.2.2.2.2.1) d7.2.2.2.1 d7.2.2.1 f (wr IntKind.i64 (d7.1 + (1 : Int))) (↑(Int.toNat d7.2.1 + (1 : Nat)) : Int) (List.take (Int.toNat d7.2.1) d7.2.2.2.2.2.1 ++ d7.1 :: ([] : List Int))).2.1) : Int)) (some (Lp.go ((wr IntKind.i64 (d7.1 + (1 : Int)), (↑(Int.toNat (wr IntKind.i64 ((↑(Int.toNat (growF (mayM d7.2.2.2.2.1) d7.2.2.2.1 d7.2.2.1 f (wr IntKind.i64 (d7.1 + (1 : Int))) (↑(Int.toNat d7.2.1 + (1 : Nat)) : Int) (List.take (Int.toNat d7.2.1) d7.2.2.2.2.2.1 ++ d7.1 :: ([] : List Int))).2.1) : Int) - (1 : Int)))) : Int), d7.2.2.1, d7.2.2.2.1, d7.2.2.2.2.1, (growF (mayM d7.2.2.2.2.1) d7.2.2.2.1 d7.2.2.1 f (wr IntKind.i64 (d7.1 + (1 : Int))) (↑(Int.toNat d7.2.1 + (1 : Nat)) : Int) (List.take (Int.toNat d7.2.1) d7.2.2.2.2.2.1 ++ d7.1 :: ([] : List Int))).2.2.1, ()) : Int × Int × Int × Int × Int × List Int × Unit))))))) else some (Lp.go ((wr IntKind.i64 (d7.1 + (1 : Int)), (↑(Int.toNat d7.2.1) : Int), d7.2.2.1, d7.2.2.2.1, d7.2.2.2.2.1, d7.2.2.2.2.2.1, ()) : Int × Int × Int × Int × Int × List Int × Unit)))) else some (Lp.out ((false, (↑(Int.toNat d7.2.1) : Int), d7.2.2.1, d7.2.2.2.1, d7.2.2.2.2.1, d7.2.2.2.2.2.1, ()) : Bool × Int × Int × Int × Int × List Int × Unit))) ((x0, (↑(Int.toNat x1) : Int), x2, x3, x4, x5, ()) : Int × Int × Int × Int × Int × List Int × Unit)
noncomputable def g99m_sh : List LSh := LSh.mk3 (((1, TV.ref (0) (1 : Nat) (0 : Nat) (0 : Nat)) : Nat × TV) :: ((2, TV.ref (1) (1 : Nat) (0 : Nat) (0 : Nat)) : Nat × TV) :: ((3, TV.ref (2) (1 : Nat) (0 : Nat) (0 : Nat)) : Nat × TV) :: ((4, TV.ref (3) (1 : Nat) (0 : Nat) (0 : Nat)) : Nat × TV) :: ((5, TV.ref (4) (1 : Nat) (0 : Nat) (0 : Nat)) : Nat × TV) :: ((8, TV.v (Ty.int IntKind.i64)) : Nat × TV) :: ([] : List (Nat × TV))) (TB.cells (TV.sl (8) (1) (0) :: ([] : List TV)) :: TB.cells (TV.v (Ty.int IntKind.i64) :: ([] : List TV)) :: TB.cells (TV.v (Ty.int IntKind.i64) :: ([] : List TV)) :: TB.cells (TV.fn (96) (TV.cons (TV.ref (5) (1 : Nat) (0 : Nat) (0 : Nat)) TV.nil) :: ([] : List TV)) :: TB.cells (TV.fn (99) (TV.cons (TV.ref (0) (1 : Nat) (0 : Nat) (0 : Nat)) (TV.cons (TV.ref (1) (1 : Nat) (0 : Nat) (0 : Nat)) (TV.cons (TV.ref (2) (1 : Nat) (0 : Nat) (0 : Nat)) (TV.cons (TV.ref (3) (1 : Nat) (0 : Nat) (0 : Nat)) (TV.cons (TV.ref (4) (1 : Nat) (0 : Nat) (0 : Nat)) TV.nil))))) :: ([] : List TV)) :: TB.cells (TV.fn (84) (TV.cons (TV.ref (6) (1 : Nat) (0 : Nat) (0 : Nat)) TV.nil) :: ([] : List TV)) :: TB.cells (TV.v (Ty.int IntKind.i64) :: ([] : List TV)) :: TB.dead :: TB.arr (Ty.int IntKind.i64) true :: ([] : List TB)) (8) :: ([] : List LSh)
def srM (n size : Int) : Srch := growF (mayM n) n size 62 0 0 []
noncomputable def con77m : SCon := mkS 77 [.v I64, .v I64, .fn 96 (.cons (.ref 0 1 0 0) .nil)] B96m [.opt (.v LI)] B96m (fun (n size q : Int) => [1 ≤ size ∧ size ≤ 60, qOk n q]) (fun (n size q : Int) => (!(srM q size).1, bif (srM q size).1 then foundL (srM q size) else [], q, ()))
noncomputable def g77m (x0 x1 x2 : Int) : Option (Bool × List Int × Int × Unit) := gd (pre99 (62 : Nat) (0 : Int) (0 : Int) x0 x1 ([] : List Int)) (gd (qOk x0 x2) (bif !(growF (mayM x2) x0 x1 (62 : Nat) (0 : Int) (0 : Int) ([] : List Int)).1 then gd (true = true) (some ((true, ([] : List Int), x2, ()) : Bool × List Int × Int × Unit)) else gd ((0 : Nat) + Int.toNat (growF (mayM x2) x0 x1 (62 : Nat) (0 : Int) (0 : Int) ([] : List Int)).2.1 ≤ List.length (growF (mayM x2) x0 x1 (62 : Nat) (0 : Int) (0 : Int) ([] : List Int)).2.2.1) (gd (List.length (List.take (Int.toNat (growF (mayM x2) x0 x1 (62 : Nat) (0 : Int) (0 : Int) ([] : List Int)).2.1) (List.drop (0 : Nat) (growF (mayM x2) x0 x1 (62 : Nat) (0 : Int) (0 : Int) ([] : List Int)).2.2.1)) ≠ (0 : Nat)) (some ((false, List.take (Int.toNat (growF (mayM x2) x0 x1 (62 : Nat) (0 : Int) (0 : Int) ([] : List Int)).2.1) (List.drop (0 : Nat) (growF (mayM x2) x0 x1 (62 : Nat) (0 : Int) (0 : Int) ([] : List Int)).2.2.1), x2, ()) : Bool × List Int × Int × Unit)))))
noncomputable def g77m_sh : List LSh := ([] : List LSh)
noncomputable def con69m : SCon := mkS 69 [.v I64, .fn 84 (.cons (.ref 0 1 0 0) .nil)] [.cells [.v I64]] [.v LI] [.cells [.v I64]] (fun (n q : Int) => [qOk n q]) (fun (n q : Int) => (mostL (srM q) 62 [], q, ()))
noncomputable def g69m (x0 x1 : Int) : Option (List Int × Int × Unit) := whileO (fun (d2 : List Int × Int × Unit) => gd ((1 : Int) ≤ wr IntKind.i64 ((↑(List.length d2.1) : Int) + (1 : Int)) ∧ wr IntKind.i64 ((↑(List.length d2.1) : Int) + (1 : Int)) ≤ (60 : Int)) (gd (qOk x0 d2.2.1) (bif !(srM d2.2.1 (wr IntKind.i64 ((↑(List.length d2.1) : Int) + (1 : Int)))).1 then some (Lp.out ((d2.1, d2.2.1, ()) : List Int × Int × Unit)) else some (Lp.go ((bif !(srM d2.2.1 (wr IntKind.i64 ((↑(List.length d2.1) : Int) + (1 : Int)))).1 then ([] : List Int) else bif (srM d2.2.1 (wr IntKind.i64 ((↑(List.length d2.1) : Int) + (1 : Int)))).1 then foundL (srM d2.2.1 (wr IntKind.i64 ((↑(List.length d2.1) : Int) + (1 : Int)))) else ([] : List Int), d2.2.1, ()) : List Int × Int × Unit))))) ((([] : List Int), x1, ()) : List Int × Int × Unit)
noncomputable def g69m_sh : List LSh := LSh.mk3 (((3, TV.ref (1) (1 : Nat) (0 : Nat) (0 : Nat)) : Nat × TV) :: ((5, TV.v (Ty.slice (Ty.int IntKind.i64))) : Nat × TV) :: ([] : List (Nat × TV))) (TB.cells (TV.v (Ty.int IntKind.i64) :: ([] : List TV)) :: TB.cells (TV.fn (84) (TV.cons (TV.ref (0) (1 : Nat) (0 : Nat) (0 : Nat)) TV.nil) :: ([] : List TV)) :: ([] : List TB)) (1) :: ([] : List LSh)
def mostX (n : Int) : List Int × Int × Unit := if decide (2 ≤ n) && decide (n ≤ 25) then (mostL (srM n) 62 [], 0, ()) else ([], 2, ())
noncomputable def con46 : Con := mkC 46 [.d I64] [LI, I64] (fun (n : Int) => []) (fun (n : Int) => mostX n)
noncomputable def g46 (x0 : Int) : Option (List Int × Int × Unit) := gd ((!ilt x0 (2 : Int)) = true → (!ilt x0 (2 : Int)) = true) (gd (ilt x0 (2 : Int) = false → (!ilt x0 (2 : Int)) = true) (bif bif ilt x0 (2 : Int) then true else ilt (25 : Int) x0 then some ((([] : List Int), (2 : Int), ()) : List Int × Int × Unit) else gd (qOk x0 x0) (some ((mostL (srM x0) (62 : Nat) ([] : List Int), (0 : Int), ()) : List Int × Int × Unit))))
noncomputable def g46_sh : List LSh := ([] : List LSh)

/-! Wide: numbers without sums. -/
def mayW (n : Int) (l : List Int) (x : Int) : Bool := freeS n (l ++ [x])
noncomputable def con86 : Con := mkC 86 [.d LI, .d I64, .d (.ptr I64)] [.bool] (fun (l : List Int) (x n : Int) => [mayRP n l x]) (fun (l : List Int) (x n : Int) => (mayW n l x, ()))
noncomputable def g86 (x0 : List Int) (x1 x2 : Int) : Option (Bool × Unit) := gd (List.length x0 ≤ (100000 : Nat)) (gd (List.length x0 ≤ List.length x0) (gd ((List.length x0 + (1 : Nat)) * (8 : Nat) ≤ (1099511627776 : Nat)) (gd ((0 : Nat) + (List.length x0 + (1 : Nat)) ≤ List.length (List.take (List.length x0) x0 ++ x1 :: ([] : List Int))) (gd (okR x2 (List.take (List.length x0 + (1 : Nat)) (List.drop (0 : Nat) (List.take (List.length x0) x0 ++ x1 :: ([] : List Int)))) = true) (some ((freeS x2 (List.take (List.length x0 + (1 : Nat)) (List.drop (0 : Nat) (List.take (List.length x0) x0 ++ x1 :: ([] : List Int)))), ()) : Bool × Unit))))))
noncomputable def g86_sh : List LSh := ([] : List LSh)
abbrev I99w : List TB := [.cells [.sl 6 1 0], .cells [.v I64], .cells [.v I64], .cells [.fn 86 (.cons (.ref 5 1 0 0) .nil)], .cells [Gr99], .cells [.v I64], .arr I64 true]
abbrev O99w : List TB := [.cells [.sl 7 1 0], .cells [.v I64], .cells [.v I64], .cells [.fn 86 (.cons (.ref 5 1 0 0) .nil)], .cells [Gr99], .cells [.v I64], .dead, .arr I64 true]
noncomputable def con99w (f : Nat) : SCon := mkS 99 A99 I99w [.v .bool] O99w (fun (frm len size n q : Int) (a : List Int) => [pre99 f frm len n size a, qOk n q]) (fun (frm len size n q : Int) (a : List Int) => ((growF (mayW q) n size f frm len a).1, (growF (mayW q) n size f frm len a).2.1, size, n, q, (growF (mayW q) n size f frm len a).2.2.1, ()))
noncomputable def g99w (f : Nat) (x0 x1 x2 x3 x4 : Int) (x5 : List Int) : Option (Bool × Int × Int × Int × Int × List Int × Unit) := bif ieq (↑(Int.toNat x1) : Int) x2 then some ((true, (↑(Int.toNat x1) : Int), x2, x3, x4, x5, ()) : Bool × Int × Int × Int × Int × List Int × Unit) else whileO (fun (d7 : Int × Int × Int × Int × Int × List Int × Unit) => bif ile d7.1 (wr IntKind.i64 (d7.2.2.2.1 - wr IntKind.i64 (d7.2.2.1 - (↑(Int.toNat d7.2.1) : Int)))) then gd ((0 : Nat) + Int.toNat d7.2.1 ≤ List.length d7.2.2.2.2.2.1) (gd (mayRP d7.2.2.2.2.1 (List.take (Int.toNat d7.2.1) (List.drop (0 : Nat) d7.2.2.2.2.2.1)) d7.1) (bif mayW d7.2.2.2.2.1 (List.take (Int.toNat d7.2.1) (List.drop (0 : Nat) d7.2.2.2.2.2.1)) d7.1 then gd (Int.toNat d7.2.1 ≤ List.length d7.2.2.2.2.2.1) (gd ((Int.toNat d7.2.1 + (1 : Nat)) * (8 : Nat) ≤ (1099511627776 : Nat)) (gd (pre99 f (wr IntKind.i64 (d7.1 + (1 : Int))) (↑(Int.toNat d7.2.1 + (1 : Nat)) : Int) d7.2.2.2.1 d7.2.2.1 (List.take (Int.toNat d7.2.1) d7.2.2.2.2.2.1 ++ d7.1 :: ([] : List Int))) (gd (qOk d7.2.2.2.1 d7.2.2.2.2.1) (bif (growF (mayW d7.2.2.2.2.1) d7.2.2.2.1 d7.2.2.1 f (wr IntKind.i64 (d7.1 + (1 : Int))) (↑(Int.toNat d7.2.1 + (1 : Nat)) : Int) (List.take (Int.toNat d7.2.1) d7.2.2.2.2.2.1 ++ d7.1 :: ([] : List Int))).1 then some (Lp.out ((true, (↑(Int.toNat (growF (mayW d7.2.2.2.2.1) d7.2.2.2.1 d7.2.2.1 f (wr IntKind.i64 (d7.1 + (1 : Int))) (↑(Int.toNat d7.2.1 + (1 : Nat)) : Int) (List.take (Int.toNat d7.2.1) d7.2.2.2.2.2.1 ++ d7.1 :: ([] : List Int))).2.1) : Int), d7.2.2.1, d7.2.2.2.1, d7.2.2.2.2.1, (growF (mayW d7.2.2.2.2.1) d7.2.2.2.1 d7.2.2.1 f (wr IntKind.i64 (d7.1 + (1 : Int))) (↑(Int.toNat d7.2.1 + (1 : Nat)) : Int) (List.take (Int.toNat d7.2.1) d7.2.2.2.2.2.1 ++ d7.1 :: ([] : List Int))).2.2.1, ()) : Bool × Int × Int × Int × Int × List Int × Unit)) else gd ((0 : Int) ≤ wr IntKind.i64 ((↑(Int.toNat (growF (mayW d7.2.2.2.2.1) d7.2.2.2.1 d7.2.2.1 f (wr IntKind.i64 (d7.1 + (1 : Int))) (↑(Int.toNat d7.2.1 + (1 : Nat)) : Int) (List.take (Int.toNat d7.2.1) d7.2.2.2.2.2.1 ++ d7.1 :: ([] : List Int))).2.1) : Int) - (1 : Int)) ∧ wr IntKind.i64 ((↑(Int.toNat (growF (mayW d7.2.2.2.2.1) d7.2.2.2.1 d7.2.2.1 f (wr IntKind.i64 (d7.1 + (1 : Int))) (↑(Int.toNat d7.2.1 + (1 : Nat)) : Int) (List.take (Int.toNat d7.2.1) d7.2.2.2.2.2.1 ++ d7.1 :: ([] : List Int))).2.1) : Int) - (1 : Int)) ≤ (↑(Int.toNat (growF (mayW d7.2.2.2.2.1) d7.2.2.2.1 d7.2.2.1 f (wr IntKind.i64 (d7.1 + (1 : Int))) (↑(Int.toNat d7.2.1 + (1 : Nat)) : Int) (List.take (Int.toNat d7.2.1) d7.2.2.2.2.2.1 ++ d7.1 :: ([] : List Int))).2.1) : Int)) (some (Lp.go ((wr IntKind.i64 (d7.1 + (1 : Int)), (↑(Int.toNat (wr IntKind.i64 ((↑(Int.toNat (growF (mayW d7.2.2.2.2.1) d7.2.2.2.1 d7.2.2.1 f (wr IntKind.i64 (d7.1 + (1 : Int))) (↑(Int.toNat d7.2.1 + (1 : Nat)) : Int) (List.take (Int.toNat d7.2.1) d7.2.2.2.2.2.1 ++ d7.1 :: ([] : List Int))).2.1) : Int) - (1 : Int)))) : Int), d7.2.2.1, d7.2.2.2.1, d7.2.2.2.2.1, (growF (mayW d7.2.2.2.2.1) d7.2.2.2.1 d7.2.2.1 f (wr IntKind.i64 (d7.1 + (1 : Int))) (↑(Int.toNat d7.2.1 + (1 : Nat)) : Int) (List.take (Int.toNat d7.2.1) d7.2.2.2.2.2.1 ++ d7.1 :: ([] : List Int))).2.2.1, ()) : Int × Int × Int × Int × Int × List Int × Unit))))))) else some (Lp.go ((wr IntKind.i64 (d7.1 + (1 : Int)), (↑(Int.toNat d7.2.1) : Int), d7.2.2.1, d7.2.2.2.1, d7.2.2.2.2.1, d7.2.2.2.2.2.1, ()) : Int × Int × Int × Int × Int × List Int × Unit)))) else some (Lp.out ((false, (↑(Int.toNat d7.2.1) : Int), d7.2.2.1, d7.2.2.2.1, d7.2.2.2.2.1, d7.2.2.2.2.2.1, ()) : Bool × Int × Int × Int × Int × List Int × Unit))) ((x0, (↑(Int.toNat x1) : Int), x2, x3, x4, x5, ()) : Int × Int × Int × Int × Int × List Int × Unit)
noncomputable def g99w_sh : List LSh := LSh.mk3 (((1, TV.ref (0) (1 : Nat) (0 : Nat) (0 : Nat)) : Nat × TV) :: ((2, TV.ref (1) (1 : Nat) (0 : Nat) (0 : Nat)) : Nat × TV) :: ((3, TV.ref (2) (1 : Nat) (0 : Nat) (0 : Nat)) : Nat × TV) :: ((4, TV.ref (3) (1 : Nat) (0 : Nat) (0 : Nat)) : Nat × TV) :: ((5, TV.ref (4) (1 : Nat) (0 : Nat) (0 : Nat)) : Nat × TV) :: ((8, TV.v (Ty.int IntKind.i64)) : Nat × TV) :: ([] : List (Nat × TV))) (TB.cells (TV.sl (7) (1) (0) :: ([] : List TV)) :: TB.cells (TV.v (Ty.int IntKind.i64) :: ([] : List TV)) :: TB.cells (TV.v (Ty.int IntKind.i64) :: ([] : List TV)) :: TB.cells (TV.fn (86) (TV.cons (TV.ref (5) (1 : Nat) (0 : Nat) (0 : Nat)) TV.nil) :: ([] : List TV)) :: TB.cells (TV.fn (99) (TV.cons (TV.ref (0) (1 : Nat) (0 : Nat) (0 : Nat)) (TV.cons (TV.ref (1) (1 : Nat) (0 : Nat) (0 : Nat)) (TV.cons (TV.ref (2) (1 : Nat) (0 : Nat) (0 : Nat)) (TV.cons (TV.ref (3) (1 : Nat) (0 : Nat) (0 : Nat)) (TV.cons (TV.ref (4) (1 : Nat) (0 : Nat) (0 : Nat)) TV.nil))))) :: ([] : List TV)) :: TB.cells (TV.v (Ty.int IntKind.i64) :: ([] : List TV)) :: TB.dead :: TB.arr (Ty.int IntKind.i64) true :: ([] : List TB)) (7) :: ([] : List LSh)
def srW (n size : Int) : Srch := growF (mayW n) n size 62 0 0 []
noncomputable def con77w : SCon := mkS 77 [.v I64, .v I64, .fn 86 (.cons (.ref 0 1 0 0) .nil)] [.cells [.v I64]] [.opt (.v LI)] [.cells [.v I64]] (fun (n size q : Int) => [1 ≤ size ∧ size ≤ 60, qOk n q]) (fun (n size q : Int) => (!(srW q size).1, bif (srW q size).1 then foundL (srW q size) else [], q, ()))
noncomputable def g77w (x0 x1 x2 : Int) : Option (Bool × List Int × Int × Unit) := gd (pre99 (62 : Nat) (0 : Int) (0 : Int) x0 x1 ([] : List Int)) (gd (qOk x0 x2) (bif !(growF (mayW x2) x0 x1 (62 : Nat) (0 : Int) (0 : Int) ([] : List Int)).1 then gd (true = true) (some ((true, ([] : List Int), x2, ()) : Bool × List Int × Int × Unit)) else gd ((0 : Nat) + Int.toNat (growF (mayW x2) x0 x1 (62 : Nat) (0 : Int) (0 : Int) ([] : List Int)).2.1 ≤ List.length (growF (mayW x2) x0 x1 (62 : Nat) (0 : Int) (0 : Int) ([] : List Int)).2.2.1) (gd (List.length (List.take (Int.toNat (growF (mayW x2) x0 x1 (62 : Nat) (0 : Int) (0 : Int) ([] : List Int)).2.1) (List.drop (0 : Nat) (growF (mayW x2) x0 x1 (62 : Nat) (0 : Int) (0 : Int) ([] : List Int)).2.2.1)) ≠ (0 : Nat)) (some ((false, List.take (Int.toNat (growF (mayW x2) x0 x1 (62 : Nat) (0 : Int) (0 : Int) ([] : List Int)).2.1) (List.drop (0 : Nat) (growF (mayW x2) x0 x1 (62 : Nat) (0 : Int) (0 : Int) ([] : List Int)).2.2.1), x2, ()) : Bool × List Int × Int × Unit)))))
noncomputable def g77w_sh : List LSh := ([] : List LSh)
/-- Whether one of 2, 3, 5 is a proper divisor. -/
def divQ (p d : Int) : Bool := ilt d p && ieq (Int.tmod p d) 0
noncomputable def con101 : Con := mkC 101 [.d I64, .d (.ptr I64)] [.bool] (fun (d p : Int) => [d = 2 ∨ d = 3 ∨ d = 5]) (fun (d p : Int) => (divQ p d, ()))
noncomputable def g101 (x0 x1 : Int) : Option (Bool × Unit) := gd (ilt x0 x1 = true → ilt x0 x1 = true ∧ ilt x0 x1 = true ∧ x0 ≠ (0 : Int)) (gd (ilt x0 x1 = true → ilt x0 x1 = true) (gd (ilt x0 x1 = true → ilt x0 x1 = true) (some ((bif ilt x0 x1 then ieq (Int.tmod x1 x0) (0 : Int) else false, ()) : Bool × Unit))))
noncomputable def g101_sh : List LSh := ([] : List LSh)
def l235 (l : List Int) : Prop := l = [2, 3, 5]
def ixD (p : Int) : Int := if divQ p 2 = true then 0 else if divQ p 3 = true then 1 else if divQ p 5 = true then 2 else -1
noncomputable def con98d : Con := mkC 98 [.d LI, .fn 101 [.ptr I64]] [I64] (fun (l : List Int) (p : Int) => [l235 l]) (fun (l : List Int) (p : Int) => (ixD p, ()))
noncomputable def g98d (x0 : List Int) (x1 : Int) : Option (Int × Unit) := whileO (fun (d2 : Int × Int × Unit) => bif ilt d2.2.1 (↑(List.length x0) : Int) then gd ((0 : Int) ≤ d2.2.1 ∧ d2.2.1 < (↑(List.length x0) : Int)) (gd (List.getD x0 (Int.toNat d2.2.1) (0 : Int) = (2 : Int) ∨ List.getD x0 (Int.toNat d2.2.1) (0 : Int) = (3 : Int) ∨ List.getD x0 (Int.toNat d2.2.1) (0 : Int) = (5 : Int)) (bif divQ d2.1 (List.getD x0 (Int.toNat d2.2.1) (0 : Int)) then some (Lp.out ((d2.2.1, ()) : Int × Unit)) else some (Lp.go ((d2.1, wr IntKind.i64 (d2.2.1 + (1 : Int)), ()) : Int × Int × Unit)))) else some (Lp.out (((-1 : Int), ()) : Int × Unit))) ((x1, (0 : Int), ()) : Int × Int × Unit)
noncomputable def g98d_sh : List LSh := LSh.mk (((1, TV.fn (101) (TV.cons (TV.v (Ty.ptr (Ty.int IntKind.i64))) TV.nil)) : Nat × TV) :: ((8, TV.v (Ty.int IntKind.i64)) : Nat × TV) :: ([] : List (Nat × TV))) ([] : List TB) :: ([] : List LSh)
noncomputable def con72d : Con := mkC 72 [.d LI, .fn 101 [.ptr I64]] [.bool] (fun (l : List Int) (p : Int) => [l235 l]) (fun (l : List Int) (p : Int) => (ile 0 (ixD p), ()))
noncomputable def g72d (x0 : List Int) (x1 : Int) : Option (Bool × Unit) := gd (l235 x0) (some ((ile (0 : Int) (ixD x1), ()) : Bool × Unit))
noncomputable def g72d_sh : List LSh := ([] : List LSh)
def wideL (n : Int) : Nat → Int → Int
  | 0, _ => n / 3
  | f + 1, p => if !(ile 0 (ixD p)) && ieq (Int.tmod p 3) 2 && ieq (Int.tmod n p) 0 then n * (p + 1) / (3 * p) else wideL n f (p + 1)
def wideF (n : Int) : Int := wideL n (n - 1).toNat 2
noncomputable def con85 : Con := mkC 85 [.d I64] [I64] (fun (n : Int) => [2 ≤ n ∧ n ≤ 25]) (fun (n : Int) => (wideF n, ()))
noncomputable def g85 (x0 : Int) : Option (Int × Unit) := whileO (fun (d1 : Int × Unit) => bif ile d1.1 x0 then gd ((2 : Int) :: (3 : Int) :: (5 : Int) :: ([] : List Int) = (2 : Int) :: (3 : Int) :: (5 : Int) :: ([] : List Int)) (gd ((!ile (0 : Int) (ixD d1.1)) = true → (!ile (0 : Int) (ixD d1.1)) = true ∧ (3 : Int) ≠ (0 : Int)) (gd ((!ile (0 : Int) (ixD d1.1)) = true → (!ile (0 : Int) (ixD d1.1)) = true) (gd ((!ile (0 : Int) (ixD d1.1)) = true → (!ile (0 : Int) (ixD d1.1)) = true) (gd ((bif !ile (0 : Int) (ixD d1.1) then ieq (Int.tmod d1.1 (3 : Int)) (2 : Int) else false) = true → (bif !ile (0 : Int) (ixD d1.1) then ieq (Int.tmod d1.1 (3 : Int)) (2 : Int) else false) = true ∧ (bif !ile (0 : Int) (ixD d1.1) then ieq (Int.tmod d1.1 (3 : Int)) (2 : Int) else false) = true ∧ d1.1 ≠ (0 : Int)) (gd ((bif !ile (0 : Int) (ixD d1.1) then ieq (Int.tmod d1.1 (3 : Int)) (2 : Int) else false) = true → (bif !ile (0 : Int) (ixD d1.1) then ieq (Int.tmod d1.1 (3 : Int)) (2 : Int) else false) = true) (gd ((bif !ile (0 : Int) (ixD d1.1) then ieq (Int.tmod d1.1 (3 : Int)) (2 : Int) else false) = true → (bif !ile (0 : Int) (ixD d1.1) then ieq (Int.tmod d1.1 (3 : Int)) (2 : Int) else false) = true) (bif bif bif !ile (0 : Int) (ixD d1.1) then ieq (Int.tmod d1.1 (3 : Int)) (2 : Int) else false then ieq (Int.tmod x0 d1.1) (0 : Int) else false then gd (wr IntKind.i64 ((3 : Int) * d1.1) ≠ (0 : Int)) (some (Lp.out ((wr IntKind.i64 (Int.tdiv (wr IntKind.i64 (x0 * wr IntKind.i64 (d1.1 + (1 : Int)))) (wr IntKind.i64 ((3 : Int) * d1.1))), ()) : Int × Unit))) else some (Lp.go ((wr IntKind.i64 (d1.1 + (1 : Int)), ()) : Int × Unit))))))))) else gd ((3 : Int) ≠ (0 : Int)) (some (Lp.out ((wr IntKind.i64 (Int.tdiv x0 (3 : Int)), ()) : Int × Unit)))) (((2 : Int), ()) : Int × Unit)
noncomputable def g85_sh : List LSh := LSh.mk (((3, TV.ref (0) (1 : Nat) (0 : Nat) (0 : Nat)) : Nat × TV) :: ([] : List (Nat × TV))) (TB.cells (TV.v (Ty.int IntKind.i64) :: ([] : List TV)) :: ([] : List TB)) :: ([] : List LSh)
def wideX (n : Int) : List Int × Int × Unit := if decide (2 ≤ n) && decide (n ≤ 25) then (bif (srW n (wideF n)).1 then foundL (srW n (wideF n)) else [], 0, ()) else ([], 2, ())
noncomputable def con47 : Con := mkC 47 [.d I64] [LI, I64] (fun (n : Int) => []) (fun (n : Int) => wideX n)
noncomputable def g47 (x0 : Int) : Option (List Int × Int × Unit) := gd ((!ilt x0 (2 : Int)) = true → (!ilt x0 (2 : Int)) = true) (gd (ilt x0 (2 : Int) = false → (!ilt x0 (2 : Int)) = true) (bif bif ilt x0 (2 : Int) then true else ilt (25 : Int) x0 then some ((([] : List Int), (2 : Int), ()) : List Int × Int × Unit) else gd ((2 : Int) ≤ x0 ∧ x0 ≤ (25 : Int)) (gd ((1 : Int) ≤ wideF x0 ∧ wideF x0 ≤ (60 : Int)) (gd (qOk x0 x0) (some ((bif !(srW x0 (wideF x0)).1 then ([] : List Int) else bif (srW x0 (wideF x0)).1 then foundL (srW x0 (wideF x0)) else ([] : List Int), (0 : Int), ()) : List Int × Int × Unit))))))
noncomputable def g47_sh : List LSh := ([] : List LSh)

/-! the law Mirrored -/
end Go.Caps

set_option linter.unusedVariables false
set_option linter.unusedSimpArgs false
namespace Go.Caps
open Go Go.Ab Go.Proofs

theorem goal54l : con54l.goal Try.prog (spS [] []) g54l_sh [5] lm30 := by
  have e : (∀ (len : Int) (a : List Int), (0 ≤ len ∧ len ≤ 100000 ∧ len ≤ a.length) → g54l len a = some (a, a.take len.toNat, ())) = con54l.goal Try.prog (spS [] []) g54l_sh [5] lm30 := by kernel_rfl
  rw [← e]
  rintro len a ⟨h1, h2, h3⟩
  have hl : (a.take len.toNat).length = len.toNat := by rw [List.length_take]; omega
  unfold g54l
  simp only [Nat.zero_add, List.drop_zero, gd_true, hl, Nat.le_refl]
  rw [gd_pos (by omega), gd_pos (by omega)]
  have : eqO (len.toNat = 0) (some (a, ([] : List Int), ())) (some (a, a.take len.toNat, ())) = some (a, a.take len.toNat, ()) := eqO_some.2 ⟨rfl, fun h => by rw [h, List.take_zero]⟩
  rw [this]
  rfl
set_option maxRecDepth 100000 in
theorem ok54l : con54l.Ok Try.prog := SCon.of_goal mixed okN okS0 con54l goal54l

theorem goal84 : con84.goal Try.prog (spOf [con81]) g84_sh [] lm30 := by
  have e : (∀ (l : List Int) (n : Int), okR n l = true → g84 l n = some (nodK (diffs n l), ())) = con84.goal Try.prog (spOf [con81]) g84_sh [] lm30 := by kernel_rfl
  rw [← e]
  intro l n h
  unfold g84
  rw [gd_pos h]
set_option maxRecDepth 100000 in
theorem ok84 : con84.Ok Try.prog := Con.of_goal mixed (okC ok81 okN) con84 goal84

theorem okR_len {n : Int} {l : List Int} (h : okR n l = true) : l.length ≤ 40 := by
  obtain ⟨h1, h2, h3, h4⟩ := okR_spec h
  have := ris_short (n := n - 1) (by omega) h3 (fun x hx => by have := h4 x hx; omega)
  omega
theorem goal96t : con96t.goal Try.prog (spS [con54l] [con70]) g96t_sh [] lm30 := by
  have e : (∀ (len x : Int) (a : List Int), inA len a → mayTP (a.take len.toNat) x → g96t len x a = some (mayT (a.take len.toNat) x, a, ())) = con96t.goal Try.prog (spS [con54l] [con70]) g96t_sh [] lm30 := by kernel_rfl
  rw [← e]
  rintro len x a ⟨h1, h2, h3⟩ ⟨q1, q2, q3⟩
  have hl : (a.take len.toNat).length = len.toNat := by rw [List.length_take]; omega
  have ht : (a.take len.toNat).take len.toNat = a.take len.toNat := by rw [List.take_take, Nat.min_self]
  have ht2 : (a.take len.toNat ++ [x]).take (len.toNat + 1) = a.take len.toNat ++ [x] := List.take_of_length_le (by simp [hl])
  have hle : len.toNat + 1 ≤ (a.take len.toNat ++ [x]).length := by simp [hl]
  unfold g96t mayT
  simp only [hl, ht, Nat.zero_add, List.drop_zero, ht2]
  rw [gd_pos (by omega), gd_pos (Nat.le_refl _), gd_pos (by omega), gd_pos hle, gd_pos q1, gd_pos q2]
  exact gd_pos q3
set_option maxRecDepth 100000 in
theorem ok96t : con96t.Ok Try.prog := SCon.of_goal mixed (okC ok70 okN) (okS ok54l okS0) con96t goal96t
theorem goal96m : con96m.goal Try.prog (spS [con54l] [con84]) g96m_sh [] lm30 := by
  have e : (∀ (len x : Int) (a : List Int) (q : Int), inA len a → mayRP q (a.take len.toNat) x → g96m len x a q = some (mayM q (a.take len.toNat) x, a, q, ())) = con96m.goal Try.prog (spS [con54l] [con84]) g96m_sh [] lm30 := by kernel_rfl
  rw [← e]
  rintro len x a q ⟨h1, h2, h3⟩ q1
  have hl : (a.take len.toNat).length = len.toNat := by rw [List.length_take]; omega
  have ht : (a.take len.toNat).take len.toNat = a.take len.toNat := by rw [List.take_take, Nat.min_self]
  have ht2 : (a.take len.toNat ++ [x]).take (len.toNat + 1) = a.take len.toNat ++ [x] := List.take_of_length_le (by simp [hl])
  have hle : len.toNat + 1 ≤ (a.take len.toNat ++ [x]).length := by simp [hl]
  unfold mayRP at q1
  unfold g96m mayM
  simp only [hl, ht, Nat.zero_add, List.drop_zero, ht2]
  rw [gd_pos (by omega), gd_pos (Nat.le_refl _), gd_pos (by omega), gd_pos hle, gd_pos q1]
set_option maxRecDepth 100000 in
theorem ok96m : con96m.Ok Try.prog := SCon.of_goal mixed (okC ok84 okN) (okS ok54l okS0) con96m goal96m
theorem goal86 : con86.goal Try.prog (spS [con54s] [con82]) g86_sh [] lm30 := by
  have e : (∀ (l : List Int) (x n : Int), mayRP n l x → g86 l x n = some (mayW n l x, ())) = con86.goal Try.prog (spS [con54s] [con82]) g86_sh [] lm30 := by kernel_rfl
  rw [← e]
  intro l x n q1
  have h40 := okR_len q1
  unfold mayRP at q1
  rw [snoc_len] at h40
  have ht2 : (l ++ [x]).take (l.length + 1) = l ++ [x] := List.take_of_length_le (by simp)
  unfold g86 mayW
  simp only [Nat.zero_add, List.drop_zero, List.take_length, ht2]
  rw [gd_pos (by omega), gd_pos (Nat.le_refl _), gd_pos (by omega), gd_pos (by simp), gd_pos q1]
set_option maxRecDepth 100000 in
theorem ok86 : con86.Ok Try.prog := Con.of_goalS mixed (okC ok82 okN) (okS ok54s okS0) con86 goal86

theorem may_T {frm x : Int} {l : List Int} (h : risTo frm l) (h0 : 0 ≤ frm) (hx : frm ≤ x) (hx2 : x ≤ 1000) (hl : l.length < 1000) : mayTP l x :=
  have h' := risTo_snoc h h0 hx
  ⟨by rw [snoc_len]; omega, h'.1, fun y hy => by have := h'.2 y hy; omega⟩
theorem may_R {frm x n : Int} {l : List Int} (h : risTo frm l) (h0 : 0 ≤ frm) (hx : frm ≤ x) (hn : 2 ≤ n ∧ n ≤ 40) (hx2 : x < n) : mayRP n l x := by
  have h' := risTo_snoc h h0 hx
  unfold mayRP okR
  simp only [Bool.and_eq_true, decide_eq_true_eq, List.all_eq_true, inC]
  exact ⟨⟨hn, h'.1⟩, fun y hy => by have := h'.2 y hy; omega⟩

theorem ok99t_0 : (con99t 0).Ok Try.prog := scon_false _ (by kernel_rfl) (by
  have e : (∀ (frm len size n : Int) (a : List Int) (p : List Prop), some [pre99 0 frm len n size a] = some p → ¬ allP p) = (allD ((con99t 0).ins.flatMap TV.ts ++ tsB (con99t 0).ibl) fun env => ∀ p, (con99t 0).pre env = some p → ¬ allP p) := by kernel_rfl
  rw [← e]
  intro frm len size n a p hp hq
  cases hp
  have := (allP_cons.1 hq).1
  unfold pre99 at this
  omega)
theorem goal99t (f : Nat) : (con99t (f + 1)).goal Try.prog (spS [con96t, con99t f] []) g99t_sh [] lm30 := by
  have e : (∀ (frm len size n : Int) (a : List Int), pre99 (f + 1) frm len n size a → g99t f frm len size n a = some ((growF mayT n size (f + 1) frm len a).1, (growF mayT n size (f + 1) frm len a).2.1, size, n, (growF mayT n size (f + 1) frm len a).2.2.1, ())) = (con99t (f + 1)).goal Try.prog (spS [con96t, con99t f] []) g99t_sh [] lm30 := by kernel_rfl
  rw [← e]
  intro frm len size n a hp
  have hp0 := hp
  obtain ⟨h0, hls, hs60, hn0, hn, hf0, hfu, ha, hr⟩ := hp
  skip
  have hlen : ((len.toNat : Nat) : Int) = len := by omega
  unfold g99t
  rw [hlen]
  by_cases hk : len = size
  · rw [cond_t (by rw [ieq_d]; simpa using hk)]
    simp only [growF, if_pos hk]
  · rw [cond_f (by rw [ieq_d]; simpa using hk)]
    simp only [growF, if_neg hk]
    have hl : (a.take len.toNat).length = len.toNat := by rw [List.length_take]; omega
    have hX : ∀ x : Int, (a.take len.toNat ++ [x]).length = len.toNat + 1 := fun x => by simp only [List.length_append, hl, List.length_singleton]
    have hG := fun x : Int => growF_ok (may := mayT) (n := n) (size := size) f (x + 1) (len + 1) (a.take len.toNat ++ [x]) (by omega) (by rw [hX x]; omega)
    have ht : ∀ x : Int, (a.take len.toNat ++ [x]).take (len + 1).toNat = a.take len.toNat ++ [x] := fun x => List.take_of_length_le (by rw [hX x]; omega)
    simp only [ht] at hG
    have hpn := fun (x : Int) (hx : frm ≤ x) => pre_next hp0 hk hx
    have hw1 : ((len.toNat + 1 : Nat) : Int) = len + 1 := by omega
    have hw2 : wr .i64 (len + 1 - 1) = len := by rw [wr_id (by omega)]; omega
    have hw3 : wr .i64 (n - wr .i64 (size - len)) = n - (size - len) := by rw [wr_id (n := size - len) (by omega), wr_id (by omega)]
    have c2 : (((len.toNat + 1) * 8 ≤ 1099511627776) = True) := by simp; omega
    have hnone : ∀ x : Int, (growF mayT n size f (x + 1) (len + 1) (a.take len.toNat ++ [x])).1 = false → dfsF mayT n size f (x + 1) (a.take len.toNat ++ [x]) = none := fun x hr => by
      have := (hG x).1
      rw [hr] at this
      simpa using this.symm
    have hP : ∀ x, frm ≤ x → x < n - (size - len) + 1 → mayTP (a.take len.toNat) x := fun x hx1 hx2 => may_T hr hf0 hx1 (by omega) (by omega)
    refine tryF_loop (C := n - (size - len) + 1) (frm := frm) (st := fun x a => ((x, len, size, n, a, ()) : Int × Int × Int × Int × List Int × Unit)) (out := fun s => (s.1, s.2.1, size, n, s.2.2.1, ())) hl ?_ ?_ ?_ ?_ ?_ _ frm a rfl (Int.le_refl _) rfl
    · intro x b hx1 hx2 hb hm
      have c1 : ile x (n - (size - len)) = true := by rw [ile_d]; simp only [decide_eq_true_eq]; omega
      have cb : len.toNat ≤ b.length := by rw [← hl, ← hb, List.length_take]; omega
      have hI : inA len b := ⟨h0, by omega, by omega⟩
      have hw : wr .i64 (x + 1) = x + 1 := wr_id (by omega)
      simp only [hlen, hw3, c1, cond_true, Nat.zero_add, gd_pos cb, List.drop_zero, gd_pos hI, hb, gd_pos (hP x hx1 hx2), hm, cond_false, hw]
    · intro x b hx1 hx2 hb hm hgr
      have c1 : ile x (n - (size - len)) = true := by rw [ile_d]; simp only [decide_eq_true_eq]; omega
      have cb : len.toNat ≤ b.length := by rw [← hl, ← hb, List.length_take]; omega
      have hI : inA len b := ⟨h0, by omega, by omega⟩
      have hw : wr .i64 (x + 1) = x + 1 := wr_id (by omega)
      have hpos : ((((growF mayT n size f (x + 1) (len + 1) (a.take len.toNat ++ [x])).2.1).toNat : Nat) : Int) = (growF mayT n size f (x + 1) (len + 1) (a.take len.toNat ++ [x])).2.1 := by rw [(hG x).2.1]; simp
      simp only [hlen, hw3, c1, cond_true, Nat.zero_add, gd_pos cb, List.drop_zero, gd_pos hI, hb, gd_pos (hP x hx1 hx2), hm, hw, c2, gd_true, hw1, gd_pos (hpn x hx1), hgr, hpos]
    · intro x b hx1 hx2 hb hm hgr
      have c1 : ile x (n - (size - len)) = true := by rw [ile_d]; simp only [decide_eq_true_eq]; omega
      have cb : len.toNat ≤ b.length := by rw [← hl, ← hb, List.length_take]; omega
      have hI : inA len b := ⟨h0, by omega, by omega⟩
      have hw : wr .i64 (x + 1) = x + 1 := wr_id (by omega)
      have h21 : (growF mayT n size f (x + 1) (len + 1) (a.take len.toNat ++ [x])).2.1 = len + 1 := by
        have := (hG x).2.1
        rw [hnone x hgr, Option.getD_none, hX] at this
        rw [this]; omega
      have h22 : (len + 1).toNat = len.toNat + 1 := by omega
      simp only [hlen, hw3, c1, cond_true, Nat.zero_add, gd_pos cb, List.drop_zero, gd_pos hI, hb, gd_pos (hP x hx1 hx2), hm, hw, c2, gd_true, hw1, gd_pos (hpn x hx1), hgr, h21, h22, hw2, cond_false]
      rw [gd_pos (by omega)]
    · intro x b hx hb
      have c1 : ile x (n - (size - len)) = false := by rw [ile_d]; simp only [decide_eq_false_iff_not]; omega
      simp only [hlen, hw3, c1, cond_false]
    · intro x hx1 hx2 hgr
      have h3 := (hG x).2.2
      rw [hnone x hgr, Option.getD_none, hX] at h3
      have := congrArg (List.take len.toNat) h3
      rw [List.take_take, Nat.min_eq_left (by omega), List.take_append_of_le_length (by omega), List.take_take, Nat.min_self] at this
      exact this
set_option maxRecDepth 100000 in
theorem ok99t : ∀ f, (con99t f).Ok Try.prog
  | 0 => ok99t_0
  | f + 1 => SCon.of_goal mixed okN (okS ok96t (okS (ok99t f) okS0)) (con99t (f + 1)) (goal99t f)

theorem ok99m_0 : (con99m 0).Ok Try.prog := scon_false _ (by kernel_rfl) (by
  have e : (∀ (frm len size n q : Int) (a : List Int) (p : List Prop), some [pre99 0 frm len n size a, qOk n q] = some p → ¬ allP p) = (allD ((con99m 0).ins.flatMap TV.ts ++ tsB (con99m 0).ibl) fun env => ∀ p, (con99m 0).pre env = some p → ¬ allP p) := by kernel_rfl
  rw [← e]
  intro frm len size n q a p hp hq
  cases hp
  have := (allP_cons.1 hq).1
  unfold pre99 at this
  omega)
theorem goal99m (f : Nat) : (con99m (f + 1)).goal Try.prog (spS [con96m, con99m f] []) g99m_sh [] lm30 := by
  have e : (∀ (frm len size n q : Int) (a : List Int), pre99 (f + 1) frm len n size a → qOk n q → g99m f frm len size n q a = some ((growF (mayM q) n size (f + 1) frm len a).1, (growF (mayM q) n size (f + 1) frm len a).2.1, size, n, q, (growF (mayM q) n size (f + 1) frm len a).2.2.1, ())) = (con99m (f + 1)).goal Try.prog (spS [con96m, con99m f] []) g99m_sh [] lm30 := by kernel_rfl
  rw [← e]
  intro frm len size n q a hp hq
  have hp0 := hp
  obtain ⟨h0, hls, hs60, hn0, hn, hf0, hfu, ha, hr⟩ := hp
  skip
  have hlen : ((len.toNat : Nat) : Int) = len := by omega
  unfold g99m
  rw [hlen]
  by_cases hk : len = size
  · rw [cond_t (by rw [ieq_d]; simpa using hk)]
    simp only [growF, if_pos hk]
  · rw [cond_f (by rw [ieq_d]; simpa using hk)]
    simp only [growF, if_neg hk]
    have hl : (a.take len.toNat).length = len.toNat := by rw [List.length_take]; omega
    have hX : ∀ x : Int, (a.take len.toNat ++ [x]).length = len.toNat + 1 := fun x => by simp only [List.length_append, hl, List.length_singleton]
    have hG := fun x : Int => growF_ok (may := (mayM q)) (n := n) (size := size) f (x + 1) (len + 1) (a.take len.toNat ++ [x]) (by omega) (by rw [hX x]; omega)
    have ht : ∀ x : Int, (a.take len.toNat ++ [x]).take (len + 1).toNat = a.take len.toNat ++ [x] := fun x => List.take_of_length_le (by rw [hX x]; omega)
    simp only [ht] at hG
    have hpn := fun (x : Int) (hx : frm ≤ x) => pre_next hp0 hk hx
    have hw1 : ((len.toNat + 1 : Nat) : Int) = len + 1 := by omega
    have hw2 : wr .i64 (len + 1 - 1) = len := by rw [wr_id (by omega)]; omega
    have hw3 : wr .i64 (n - wr .i64 (size - len)) = n - (size - len) := by rw [wr_id (n := size - len) (by omega), wr_id (by omega)]
    have c2 : (((len.toNat + 1) * 8 ≤ 1099511627776) = True) := by simp; omega
    have hnone : ∀ x : Int, (growF (mayM q) n size f (x + 1) (len + 1) (a.take len.toNat ++ [x])).1 = false → dfsF (mayM q) n size f (x + 1) (a.take len.toNat ++ [x]) = none := fun x hr => by
      have := (hG x).1
      rw [hr] at this
      simpa using this.symm
    have hP : ∀ x, frm ≤ x → x < n - (size - len) + 1 → mayRP q (a.take len.toNat) x := fun x hx1 hx2 => may_R hr hf0 hx1 ⟨hq.1, hq.2.1⟩ (by have := hq.2.2; omega)
    refine tryF_loop (C := n - (size - len) + 1) (frm := frm) (st := fun x a => ((x, len, size, n, q, a, ()) : Int × Int × Int × Int × Int × List Int × Unit)) (out := fun s => (s.1, s.2.1, size, n, q, s.2.2.1, ())) hl ?_ ?_ ?_ ?_ ?_ _ frm a rfl (Int.le_refl _) rfl
    · intro x b hx1 hx2 hb hm
      have c1 : ile x (n - (size - len)) = true := by rw [ile_d]; simp only [decide_eq_true_eq]; omega
      have cb : len.toNat ≤ b.length := by rw [← hl, ← hb, List.length_take]; omega
      have hI : inA len b := ⟨h0, by omega, by omega⟩
      have hw : wr .i64 (x + 1) = x + 1 := wr_id (by omega)
      simp only [hlen, hw3, c1, cond_true, Nat.zero_add, gd_pos cb, List.drop_zero, gd_pos hI, hb, gd_pos (hP x hx1 hx2), hm, cond_false, hw]
    · intro x b hx1 hx2 hb hm hgr
      have c1 : ile x (n - (size - len)) = true := by rw [ile_d]; simp only [decide_eq_true_eq]; omega
      have cb : len.toNat ≤ b.length := by rw [← hl, ← hb, List.length_take]; omega
      have hI : inA len b := ⟨h0, by omega, by omega⟩
      have hw : wr .i64 (x + 1) = x + 1 := wr_id (by omega)
      have hpos : ((((growF (mayM q) n size f (x + 1) (len + 1) (a.take len.toNat ++ [x])).2.1).toNat : Nat) : Int) = (growF (mayM q) n size f (x + 1) (len + 1) (a.take len.toNat ++ [x])).2.1 := by rw [(hG x).2.1]; simp
      simp only [hlen, hw3, c1, cond_true, Nat.zero_add, gd_pos cb, List.drop_zero, gd_pos hI, hb, gd_pos (hP x hx1 hx2), hm, hw, c2, gd_true, hw1, gd_pos (hpn x hx1), gd_pos hq, hgr, hpos]
    · intro x b hx1 hx2 hb hm hgr
      have c1 : ile x (n - (size - len)) = true := by rw [ile_d]; simp only [decide_eq_true_eq]; omega
      have cb : len.toNat ≤ b.length := by rw [← hl, ← hb, List.length_take]; omega
      have hI : inA len b := ⟨h0, by omega, by omega⟩
      have hw : wr .i64 (x + 1) = x + 1 := wr_id (by omega)
      have h21 : (growF (mayM q) n size f (x + 1) (len + 1) (a.take len.toNat ++ [x])).2.1 = len + 1 := by
        have := (hG x).2.1
        rw [hnone x hgr, Option.getD_none, hX] at this
        rw [this]; omega
      have h22 : (len + 1).toNat = len.toNat + 1 := by omega
      simp only [hlen, hw3, c1, cond_true, Nat.zero_add, gd_pos cb, List.drop_zero, gd_pos hI, hb, gd_pos (hP x hx1 hx2), hm, hw, c2, gd_true, hw1, gd_pos (hpn x hx1), gd_pos hq, hgr, h21, h22, hw2, cond_false]
      rw [gd_pos (by omega)]
    · intro x b hx hb
      have c1 : ile x (n - (size - len)) = false := by rw [ile_d]; simp only [decide_eq_false_iff_not]; omega
      simp only [hlen, hw3, c1, cond_false]
    · intro x hx1 hx2 hgr
      have h3 := (hG x).2.2
      rw [hnone x hgr, Option.getD_none, hX] at h3
      have := congrArg (List.take len.toNat) h3
      rw [List.take_take, Nat.min_eq_left (by omega), List.take_append_of_le_length (by omega), List.take_take, Nat.min_self] at this
      exact this
set_option maxRecDepth 100000 in
theorem ok99m : ∀ f, (con99m f).Ok Try.prog
  | 0 => ok99m_0
  | f + 1 => SCon.of_goal mixed okN (okS ok96m (okS (ok99m f) okS0)) (con99m (f + 1)) (goal99m f)

theorem ok99w_0 : (con99w 0).Ok Try.prog := scon_false _ (by kernel_rfl) (by
  have e : (∀ (frm len size n q : Int) (a : List Int) (p : List Prop), some [pre99 0 frm len n size a, qOk n q] = some p → ¬ allP p) = (allD ((con99w 0).ins.flatMap TV.ts ++ tsB (con99w 0).ibl) fun env => ∀ p, (con99w 0).pre env = some p → ¬ allP p) := by kernel_rfl
  rw [← e]
  intro frm len size n q a p hp hq
  cases hp
  have := (allP_cons.1 hq).1
  unfold pre99 at this
  omega)
theorem goal99w (f : Nat) : (con99w (f + 1)).goal Try.prog (spS [con99w f] [con86]) g99w_sh [] lm30 := by
  have e : (∀ (frm len size n q : Int) (a : List Int), pre99 (f + 1) frm len n size a → qOk n q → g99w f frm len size n q a = some ((growF (mayW q) n size (f + 1) frm len a).1, (growF (mayW q) n size (f + 1) frm len a).2.1, size, n, q, (growF (mayW q) n size (f + 1) frm len a).2.2.1, ())) = (con99w (f + 1)).goal Try.prog (spS [con99w f] [con86]) g99w_sh [] lm30 := by kernel_rfl
  rw [← e]
  intro frm len size n q a hp hq
  have hp0 := hp
  obtain ⟨h0, hls, hs60, hn0, hn, hf0, hfu, ha, hr⟩ := hp
  skip
  have hlen : ((len.toNat : Nat) : Int) = len := by omega
  unfold g99w
  rw [hlen]
  by_cases hk : len = size
  · rw [cond_t (by rw [ieq_d]; simpa using hk)]
    simp only [growF, if_pos hk]
  · rw [cond_f (by rw [ieq_d]; simpa using hk)]
    simp only [growF, if_neg hk]
    have hl : (a.take len.toNat).length = len.toNat := by rw [List.length_take]; omega
    have hX : ∀ x : Int, (a.take len.toNat ++ [x]).length = len.toNat + 1 := fun x => by simp only [List.length_append, hl, List.length_singleton]
    have hG := fun x : Int => growF_ok (may := (mayW q)) (n := n) (size := size) f (x + 1) (len + 1) (a.take len.toNat ++ [x]) (by omega) (by rw [hX x]; omega)
    have ht : ∀ x : Int, (a.take len.toNat ++ [x]).take (len + 1).toNat = a.take len.toNat ++ [x] := fun x => List.take_of_length_le (by rw [hX x]; omega)
    simp only [ht] at hG
    have hpn := fun (x : Int) (hx : frm ≤ x) => pre_next hp0 hk hx
    have hw1 : ((len.toNat + 1 : Nat) : Int) = len + 1 := by omega
    have hw2 : wr .i64 (len + 1 - 1) = len := by rw [wr_id (by omega)]; omega
    have hw3 : wr .i64 (n - wr .i64 (size - len)) = n - (size - len) := by rw [wr_id (n := size - len) (by omega), wr_id (by omega)]
    have c2 : (((len.toNat + 1) * 8 ≤ 1099511627776) = True) := by simp; omega
    have hnone : ∀ x : Int, (growF (mayW q) n size f (x + 1) (len + 1) (a.take len.toNat ++ [x])).1 = false → dfsF (mayW q) n size f (x + 1) (a.take len.toNat ++ [x]) = none := fun x hr => by
      have := (hG x).1
      rw [hr] at this
      simpa using this.symm
    have hP : ∀ x, frm ≤ x → x < n - (size - len) + 1 → mayRP q (a.take len.toNat) x := fun x hx1 hx2 => may_R hr hf0 hx1 ⟨hq.1, hq.2.1⟩ (by have := hq.2.2; omega)
    refine tryF_loop (C := n - (size - len) + 1) (frm := frm) (st := fun x a => ((x, len, size, n, q, a, ()) : Int × Int × Int × Int × Int × List Int × Unit)) (out := fun s => (s.1, s.2.1, size, n, q, s.2.2.1, ())) hl ?_ ?_ ?_ ?_ ?_ _ frm a rfl (Int.le_refl _) rfl
    · intro x b hx1 hx2 hb hm
      have c1 : ile x (n - (size - len)) = true := by rw [ile_d]; simp only [decide_eq_true_eq]; omega
      have cb : len.toNat ≤ b.length := by rw [← hl, ← hb, List.length_take]; omega
      have hI : True := trivial
      have hw : wr .i64 (x + 1) = x + 1 := wr_id (by omega)
      simp only [hlen, hw3, c1, cond_true, Nat.zero_add, gd_pos cb, List.drop_zero, gd_pos hI, hb, gd_pos (hP x hx1 hx2), hm, cond_false, hw]
    · intro x b hx1 hx2 hb hm hgr
      have c1 : ile x (n - (size - len)) = true := by rw [ile_d]; simp only [decide_eq_true_eq]; omega
      have cb : len.toNat ≤ b.length := by rw [← hl, ← hb, List.length_take]; omega
      have hI : True := trivial
      have hw : wr .i64 (x + 1) = x + 1 := wr_id (by omega)
      have hpos : ((((growF (mayW q) n size f (x + 1) (len + 1) (a.take len.toNat ++ [x])).2.1).toNat : Nat) : Int) = (growF (mayW q) n size f (x + 1) (len + 1) (a.take len.toNat ++ [x])).2.1 := by rw [(hG x).2.1]; simp
      simp only [hlen, hw3, c1, cond_true, Nat.zero_add, gd_pos cb, List.drop_zero, gd_pos hI, hb, gd_pos (hP x hx1 hx2), hm, hw, c2, gd_true, hw1, gd_pos (hpn x hx1), gd_pos hq, hgr, hpos]
    · intro x b hx1 hx2 hb hm hgr
      have c1 : ile x (n - (size - len)) = true := by rw [ile_d]; simp only [decide_eq_true_eq]; omega
      have cb : len.toNat ≤ b.length := by rw [← hl, ← hb, List.length_take]; omega
      have hI : True := trivial
      have hw : wr .i64 (x + 1) = x + 1 := wr_id (by omega)
      have h21 : (growF (mayW q) n size f (x + 1) (len + 1) (a.take len.toNat ++ [x])).2.1 = len + 1 := by
        have := (hG x).2.1
        rw [hnone x hgr, Option.getD_none, hX] at this
        rw [this]; omega
      have h22 : (len + 1).toNat = len.toNat + 1 := by omega
      simp only [hlen, hw3, c1, cond_true, Nat.zero_add, gd_pos cb, List.drop_zero, gd_pos hI, hb, gd_pos (hP x hx1 hx2), hm, hw, c2, gd_true, hw1, gd_pos (hpn x hx1), gd_pos hq, hgr, h21, h22, hw2, cond_false]
      rw [gd_pos (by omega)]
    · intro x b hx hb
      have c1 : ile x (n - (size - len)) = false := by rw [ile_d]; simp only [decide_eq_false_iff_not]; omega
      simp only [hlen, hw3, c1, cond_false]
    · intro x hx1 hx2 hgr
      have h3 := (hG x).2.2
      rw [hnone x hgr, Option.getD_none, hX] at h3
      have := congrArg (List.take len.toNat) h3
      rw [List.take_take, Nat.min_eq_left (by omega), List.take_append_of_le_length (by omega), List.take_take, Nat.min_self] at this
      exact this
set_option maxRecDepth 100000 in
theorem ok99w : ∀ f, (con99w f).Ok Try.prog
  | 0 => ok99w_0
  | f + 1 => SCon.of_goal mixed (okC ok86 okN) (okS (ok99w f) okS0) (con99w (f + 1)) (goal99w f)

theorem goal77t : con77t.goal Try.prog (spS [con99t 62] []) g77t_sh [9] lm30 := by
  have e : (∀ (n size : Int), (1 ≤ size ∧ size ≤ 60 ∧ 0 ≤ n ∧ n ≤ 100) → g77t n size = some (!(srT n size).1, bif (srT n size).1 then foundL (srT n size) else [], ())) = con77t.goal Try.prog (spS [con99t 62] []) g77t_sh [9] lm30 := by kernel_rfl
  rw [← e]
  rintro n size ⟨h1, h2, h3, h4⟩
  have hp : pre99 62 0 0 n size [] := ⟨by omega, by omega, by omega, by omega, by omega, by omega, by omega, by simp, rfl, fun x hx => nomatch hx⟩
  unfold g77t srT
  cases hd : dfsF mayT n size 62 0 [] with
  | none => simp [sr_none hd, gd_true, gd_pos hp]
  | some r =>
    obtain ⟨s1, s2, s3, s4⟩ := sr_some hd
    have hl := dfs_len _ _ _ _ hd
    have e2 : ∀ s : Srch, foundL s = s.2.2.1.take s.2.1.toNat := fun _ => rfl
    simp only [s1, Bool.not_true, cond_false, cond_true, Nat.zero_add, List.drop_zero, e2, gd_pos hp]
    rw [gd_pos (by omega), gd_pos (by rw [List.length_take]; omega)]
set_option maxRecDepth 100000 in
theorem ok77t : con77t.Ok Try.prog := SCon.of_goal mixed okN (okS (ok99t 62) okS0) con77t goal77t

theorem goal77m : con77m.goal Try.prog (spS [con99m 62] []) g77m_sh [9] lm30 := by
  have e : (∀ (n size q : Int), (1 ≤ size ∧ size ≤ 60) → qOk n q → g77m n size q = some (!(srM q size).1, bif (srM q size).1 then foundL (srM q size) else [], q, ())) = con77m.goal Try.prog (spS [con99m 62] []) g77m_sh [9] lm30 := by kernel_rfl
  rw [← e]
  rintro n size q ⟨h1, h2⟩ hq
  obtain ⟨q1, q2, rfl⟩ := hq
  have hq : qOk n n := ⟨q1, q2, rfl⟩
  have hp : pre99 62 0 0 n size [] := ⟨by omega, by omega, by omega, by omega, by omega, by omega, by omega, by simp, rfl, fun x hx => nomatch hx⟩
  unfold g77m srM
  cases hd : dfsF (mayM n) n size 62 0 [] with
  | none => simp [sr_none hd, gd_true, gd_pos hp, gd_pos hq]
  | some r =>
    obtain ⟨s1, s2, s3, s4⟩ := sr_some hd
    have hl := dfs_len _ _ _ _ hd
    have e2 : ∀ s : Srch, foundL s = s.2.2.1.take s.2.1.toNat := fun _ => rfl
    simp only [s1, Bool.not_true, cond_false, cond_true, Nat.zero_add, List.drop_zero, e2, gd_pos hp, gd_pos hq]
    rw [gd_pos (by omega), gd_pos (by rw [List.length_take]; omega)]
set_option maxRecDepth 100000 in
theorem ok77m : con77m.Ok Try.prog := SCon.of_goal mixed okN (okS (ok99m 62) okS0) con77m goal77m

theorem goal77w : con77w.goal Try.prog (spS [con99w 62] [con86]) g77w_sh [9] lm30 := by
  have e : (∀ (n size q : Int), (1 ≤ size ∧ size ≤ 60) → qOk n q → g77w n size q = some (!(srW q size).1, bif (srW q size).1 then foundL (srW q size) else [], q, ())) = con77w.goal Try.prog (spS [con99w 62] [con86]) g77w_sh [9] lm30 := by kernel_rfl
  rw [← e]
  rintro n size q ⟨h1, h2⟩ hq
  obtain ⟨q1, q2, rfl⟩ := hq
  have hq : qOk n n := ⟨q1, q2, rfl⟩
  have hp : pre99 62 0 0 n size [] := ⟨by omega, by omega, by omega, by omega, by omega, by omega, by omega, by simp, rfl, fun x hx => nomatch hx⟩
  unfold g77w srW
  cases hd : dfsF (mayW n) n size 62 0 [] with
  | none => simp [sr_none hd, gd_true, gd_pos hp, gd_pos hq]
  | some r =>
    obtain ⟨s1, s2, s3, s4⟩ := sr_some hd
    have hl := dfs_len _ _ _ _ hd
    have e2 : ∀ s : Srch, foundL s = s.2.2.1.take s.2.1.toNat := fun _ => rfl
    simp only [s1, Bool.not_true, cond_false, cond_true, Nat.zero_add, List.drop_zero, e2, gd_pos hp, gd_pos hq]
    rw [gd_pos (by omega), gd_pos (by rw [List.length_take]; omega)]
set_option maxRecDepth 100000 in
theorem ok77w : con77w.Ok Try.prog := SCon.of_goal mixed (okC ok86 okN) (okS (ok99w 62) okS0) con77w goal77w

/-! ### The most -/
theorem most_loop {St X : Type} {step : St → Option (Lp St X)} (st : List Int → St) (out : List Int → X) {S : Int → Srch} {N : Nat} (hlen : ∀ m : Int, (S m).1 = true → ((foundL (S m)).length : Int) = m ∧ m ≤ N)
    (hgo : ∀ b : List Int, b.length ≤ N → (S (b.length + 1)).1 = true → step (st b) = some (.go (st (foundL (S (b.length + 1)))))) (hout : ∀ b : List Int, b.length ≤ N → (S (b.length + 1)).1 = false → step (st b) = some (.out (out b))) :
    ∀ (f : Nat) (b : List Int), b.length ≤ N → N - b.length < f → whileO step (st b) = some (out (mostL S f b))
  | 0, b, hb, hf => by omega
  | f + 1, b, hb, hf => by
    simp only [mostL]
    cases hs : (S (b.length + 1)).1 with
    | false => rw [if_neg (by simp)]; exact whileO_out (hout b hb hs)
    | true =>
      obtain ⟨h1, h2⟩ := hlen _ hs
      rw [if_pos rfl, whileO_go (hgo b hb hs)]
      exact most_loop st out hlen hgo hout f _ (by omega) (by omega)
/-- .. and it stops where no more are. -/
theorem most_is {S : Int → Srch} {N : Nat} (hlen : ∀ m : Int, (S m).1 = true → ((foundL (S m)).length : Int) = m ∧ m ≤ N) : ∀ (f : Nat) (b : List Int), b.length ≤ N → N - b.length < f → (b = [] ∨ ((S b.length).1 = true ∧ b = foundL (S b.length))) →
    (mostL S f b = [] ∨ ((S (mostL S f b).length).1 = true ∧ mostL S f b = foundL (S (mostL S f b).length))) ∧ (S ((mostL S f b).length + 1)).1 = false ∧ (mostL S f b).length ≤ N
  | 0, b, hb, hf, _ => by omega
  | f + 1, b, hb, hf, h => by
    simp only [mostL]
    cases hs : (S (b.length + 1)).1 with
    | false => rw [if_neg (by simp)]; exact ⟨h, hs, hb⟩
    | true =>
      obtain ⟨h1, h2⟩ := hlen _ hs
      rw [if_pos rfl]
      exact most_is hlen f _ (by omega) (by omega) (.inr (by rw [h1]; exact ⟨hs, rfl⟩))

theorem dfs_size {may : List Int → Int → Bool} {n m : Int} (hm : 0 ≤ m) {r : List Int} {f : Nat} (h : dfsF may n m f 0 [] = some r) (hn : 0 ≤ n) : m ≤ n := by
  have key : ∀ (f : Nat) (frm : Int) (l r : List Int), dfsF may n m f frm l = some r → (l.length : Int) ≤ m → m - l.length ≤ n - frm ∨ (l.length : Int) = m := by
    intro f frm l r h hl
    cases f with
    | zero => simp [dfsF] at h
    | succ f =>
      simp only [dfsF] at h
      split at h
      · right; assumption
      · left
        rcases Nat.eq_zero_or_pos (n - (m - (l.length : Int)) + 1 - frm).toNat with h0 | h0
        · rw [h0] at h; simp [tryX] at h
        · omega
  rcases key f 0 [] r h (by simpa using hm) with h | h <;> simp at h <;> omega
theorem sr_len {may : List Int → Int → Bool} {n : Int} {N : Nat} (hn : 0 ≤ n) (hN : n ≤ N) {m : Int} (hm : 0 ≤ m) (h : (growF may n m 62 0 0 []).1 = true) : ((foundL (growF may n m 62 0 0 [])).length : Int) = m ∧ m ≤ N := by
  cases hd : dfsF may n m 62 0 [] with
  | none => rw [sr_none hd] at h; cases h
  | some r =>
    obtain ⟨s1, s2, s3, s4⟩ := sr_some hd
    have := dfs_size hm hd hn
    rw [s2]
    exact ⟨dfs_len _ _ _ _ hd, by omega⟩
/-- A negative number of numbers is not found. -/
theorem sr_neg {may : List Int → Int → Bool} {n : Int} (hn : 0 ≤ n) : ∀ (f : Nat) (frm m : Int) (l : List Int), m < 0 → dfsF may n m f frm l = none
  | 0, _, _, _, _ => rfl
  | f + 1, frm, m, l, hm => by
    simp only [dfsF]
    rw [if_neg (by omega)]
    cases ht : tryX (dfsF may n m f) may l (n - (m - (l.length : Int)) + 1 - frm).toNat frm with
    | none => rfl
    | some r =>
      have key : ∀ (c : Nat) (x : Int), tryX (dfsF may n m f) may l c x = none := by
        intro c
        induction c with
        | zero => intro x; rfl
        | succ c ih =>
          intro x
          simp only [tryX, sr_neg hn f _ m _ hm, ih]
          cases may l x <;> rfl
      rw [key] at ht; cases ht
theorem sr_len' {may : List Int → Int → Bool} {n : Int} {N : Nat} (hn : 0 ≤ n) (hN : n ≤ N) (m : Int) (h : (growF may n m 62 0 0 []).1 = true) : ((foundL (growF may n m 62 0 0 [])).length : Int) = m ∧ m ≤ N := by
  rcases Int.lt_or_le m 0 with hm | hm
  · rw [sr_none (sr_neg hn 62 0 m [] hm)] at h; cases h
  · exact sr_len hn hN hm h

theorem goal69t : con69t.goal Try.prog (spS [con77t] []) g69t_sh [] lm30 := by
  have e : (∀ (n : Int), (0 ≤ n ∧ n ≤ 50) → g69t n = some (mostL (srT n) 62 [], ())) = con69t.goal Try.prog (spS [con77t] []) g69t_sh [] lm30 := by kernel_rfl
  rw [← e]
  rintro n ⟨h1, h2⟩
  unfold g69t
  refine most_loop (S := srT n) (N := 50) (st := fun b => ((b, ()) : List Int × Unit)) (out := fun b => ((b, ()) : List Int × Unit)) (fun m h => sr_len' h1 (by omega) m h) (fun b hb hs => ?_) (fun b hb hs => ?_) 62 [] (by simp) (by simp)
  all_goals
    dsimp only
    rw [wr_id (n := (b.length : Int) + 1) (by omega), gd_pos ⟨by omega, by omega, h1, by omega⟩, hs]
    rfl
set_option maxRecDepth 100000 in
theorem ok69t : con69t.Ok Try.prog := SCon.of_goal mixed okN (okS ok77t okS0) con69t goal69t
theorem goal69m : con69m.goal Try.prog (spS [con77m] []) g69m_sh [] lm30 := by
  have e : (∀ (n q : Int), qOk n q → g69m n q = some (mostL (srM q) 62 [], q, ())) = con69m.goal Try.prog (spS [con77m] []) g69m_sh [] lm30 := by kernel_rfl
  rw [← e]
  rintro n q ⟨h1, h2, rfl⟩
  unfold g69m
  refine most_loop (S := srM n) (N := 50) (st := fun b => ((b, n, ()) : List Int × Int × Unit)) (out := fun b => ((b, n, ()) : List Int × Int × Unit)) (fun m h => sr_len' (by omega) (by omega) m h) (fun b hb hs => ?_) (fun b hb hs => ?_) 62 [] (by simp) (by simp)
  all_goals
    dsimp only
    rw [wr_id (n := (b.length : Int) + 1) (by omega), gd_pos ⟨by omega, by omega⟩, gd_pos ⟨h1, h2, rfl⟩, hs]
    rfl
set_option maxRecDepth 100000 in
theorem ok69m : con69m.Ok Try.prog := SCon.of_goal mixed okN (okS ok77m okS0) con69m goal69m

theorem goal32 : con32.goal Try.prog (spS [con69t] []) g32_sh [] lm30 := by
  have e : (∀ (n : Int), g32 n = some (longX n)) = con32.goal Try.prog (spS [con69t] []) g32_sh [] lm30 := by kernel_rfl
  rw [← e]
  intro n
  unfold g32 longX
  by_cases h1 : n < 1
  · have : decide (1 ≤ n) = false := by simpa using h1
    simp [ilt_iff.2 h1, gd_true, this]
  by_cases h2 : 24 < n
  · have : decide (n ≤ 24) = false := by simpa using h2
    simp [ilt_false.2 (Int.not_lt.1 h1), ilt_iff.2 h2, gd_true, this]
  rw [decide_eq_true (Int.not_lt.1 h1), decide_eq_true (Int.not_lt.1 h2), ilt_false.2 (Int.not_lt.1 h1), ilt_false.2 (Int.not_lt.1 h2)]
  simp only [Bool.not_false, imp_self, gd_true, cond_false, Bool.and_self, if_true, gd_pos (show 0 ≤ n ∧ n ≤ 50 by omega), forall_const, implies_true]
set_option maxRecDepth 100000 in
theorem ok32 : con32.Ok Try.prog := Con.of_goalS mixed okN (okS ok69t okS0) con32 goal32
theorem goal46 : con46.goal Try.prog (spS [con69m] []) g46_sh [] lm30 := by
  have e : (∀ (n : Int), g46 n = some (mostX n)) = con46.goal Try.prog (spS [con69m] []) g46_sh [] lm30 := by kernel_rfl
  rw [← e]
  intro n
  unfold g46 mostX
  by_cases h1 : n < 2
  · have : decide (2 ≤ n) = false := by simpa using h1
    simp [ilt_iff.2 h1, gd_true, this]
  by_cases h2 : 25 < n
  · have : decide (n ≤ 25) = false := by simpa using h2
    simp [ilt_false.2 (Int.not_lt.1 h1), ilt_iff.2 h2, gd_true, this]
  rw [decide_eq_true (Int.not_lt.1 h1), decide_eq_true (Int.not_lt.1 h2), ilt_false.2 (Int.not_lt.1 h1), ilt_false.2 (Int.not_lt.1 h2)]
  simp only [Bool.not_false, imp_self, gd_true, cond_false, Bool.and_self, if_true, gd_pos (show qOk n n from ⟨by omega, by omega, rfl⟩), forall_const, implies_true]
set_option maxRecDepth 100000 in
theorem ok46 : con46.Ok Try.prog := Con.of_goalS mixed okN (okS ok69m okS0) con46 goal46
end Go.Caps

set_option linter.unusedVariables false
set_option linter.unusedSimpArgs false
namespace Go.Caps
open Go Go.Ab Go.Proofs

def stepOk (l : List Int) : Prop := ∀ a ∈ l, ∀ b ∈ l, a < b → 2 * b - a ∉ l
theorem stepsF_iff {l : List Int} (hr : ris l = true) : stepsF l = true ↔ stepOk l := by
  unfold stepsF stepOk
  simp only [List.all_eq_true, List.mem_range, Bool.not_eq_true', List.contains_eq_mem, decide_eq_false_iff_not]
  constructor
  · intro h a ha b hb hab
    obtain ⟨i, hi, rfl⟩ := List.getElem_of_mem ha
    obtain ⟨j, hj, rfl⟩ := List.getElem_of_mem hb
    have := h j hj i (ris_lt hr hi hj hab)
    rwa [gd_at hi, gd_at hj] at this
  · intro h j hj i hi
    exact h _ (mem_at (by omega)) _ (mem_at hj) (ris_at hr hi hj)

/-- So many numbers below n without progressions. -/
def ApEx (n : Int) (s : Nat) : Prop := ∃ w : List Int, w.length = s ∧ ris w = true ∧ (∀ x ∈ w, 0 ≤ x ∧ x < n) ∧ stepsF w = true

theorem steps_take {w : List Int} (hr : ris w = true) (h : stepsF w = true) (m : Nat) : stepsF (w.take m) = true :=
  (stepsF_iff (ris_take hr)).2 fun a ha b hb hab hm => (stepsF_iff hr).1 h a (List.mem_of_mem_take ha) b (List.mem_of_mem_take hb) hab (List.mem_of_mem_take hm)
theorem ApEx.le {n : Int} {s t : Nat} (h : ApEx n s) (ht : t ≤ s) : ApEx n t := by
  obtain ⟨w, h1, h2, h3, h4⟩ := h
  exact ⟨w.take t, by rw [List.length_take]; omega, ris_take h2, fun x hx => h3 x (List.mem_of_mem_take hx), steps_take h2 h4 t⟩
theorem ApEx.up {n m : Int} {s : Nat} (h : ApEx n s) (hm : n ≤ m) : ApEx m s := by
  obtain ⟨w, h1, h2, h3, h4⟩ := h
  exact ⟨w, h1, h2, fun x hx => by have := h3 x hx; omega, h4⟩
theorem srT_iff {n : Int} {s : Nat} (hs : s ≤ 60) : (srT n s).1 = true ↔ ApEx n s := by
  unfold srT
  constructor
  · intro h
    cases hd : dfsF mayT n s 62 0 [] with
    | none => rw [sr_none hd] at h; cases h
    | some r =>
      obtain ⟨h1, h2, h3, h4⟩ := dfs_sound0 (by omega) hd
      refine ⟨r, by omega, h2, h3, ?_⟩
      cases s with
      | zero =>
        have : r = [] := List.eq_nil_of_length_eq_zero (by omega)
        subst this; rfl
      | succ s =>
        have := h4 s (by omega)
        unfold mayT at this
        rwa [← take_snoc (by omega), List.take_of_length_le (by omega)] at this
  · rintro ⟨w, h1, h2, h3, h4⟩
    have := dfs_ne (may := mayT) (n := n) (size := (s : Int)) (w := w) (by omega) h2 h3 62 0 0 (by omega) (by omega) (fun i _ hi => by
      unfold mayT
      rw [← take_snoc hi]
      exact steps_take h2 h4 _) (fun h => (h3 _ (mem_at h)).1)
    rw [List.take_zero] at this
    cases hd : dfsF mayT n s 62 0 [] with
    | none => exact absurd hd this
    | some r => exact (sr_some hd).1

def longN (n : Int) : Nat := (mostL (srT n) 62 []).length
theorem long_spec {n : Int} (h0 : 0 ≤ n) (h : n ≤ 50) : ApEx n (longN n) ∧ ¬ ApEx n (longN n + 1) := by
  obtain ⟨h1, h2, h3⟩ := most_is (S := srT n) (N := 50) (fun m h => sr_len' h0 (by omega) m h) 62 [] (by simp) (by simp) (.inl rfl)
  refine ⟨?_, fun hc => ?_⟩
  · rcases h1 with h1 | h1
    · unfold longN
      rw [h1]
      exact ⟨[], rfl, rfl, (fun x hx => nomatch hx), rfl⟩
    · exact (srT_iff (by unfold longN at *; omega)).1 h1.1
  · have := (srT_iff (s := longN n + 1) (by unfold longN; omega)).2 hc
    unfold longN at this
    rw [Int.natCast_add] at this
    have e : ((1 : Nat) : Int) = 1 := rfl
    rw [e, h2] at this
    cases this
theorem long_le {n : Int} (h0 : 0 ≤ n) (h : n ≤ 50) {s : Nat} (hs : ApEx n s) : s ≤ longN n := by
  have := (long_spec h0 h).2
  rcases Nat.lt_or_ge (longN n) s with hlt | hle
  · exact absurd (hs.le hlt) this
  · exact hle
end Go.Caps

set_option linter.unusedVariables false
set_option linter.unusedSimpArgs false
namespace Go.Caps
open Go Go.Ab Go.Proofs

def cmpI (x y : Int) : Int := if x < y then -1 else if y < x then 1 else 0
def cmpF : List Int → List Int → Int
  | [], [] => 0
  | [], _ :: _ => -1
  | _ :: _, [] => 1
  | x :: l, y :: m => if cmpI x y = 0 then cmpF l m else cmpI x y
end Go.Caps

set_option linter.unusedVariables false
set_option linter.unusedSimpArgs false
namespace Go.Caps
open Go Go.Ab Go.Proofs

theorem cmpI_0 {x y : Int} : cmpI x y = 0 ↔ x = y := by
  unfold cmpI
  split
  · constructor <;> intro h <;> omega
  · split <;> constructor <;> intro h <;> omega
/-- One list comes before another one, or is it. -/
def LexLe (r w : List Int) : Prop := r = w ∨ ∃ m, m < r.length ∧ m < w.length ∧ r.take m = w.take m ∧ r.getD m 0 < w.getD m 0
theorem cmp_self : ∀ {l : List Int}, cmpF l l = 0
  | [] => rfl
  | x :: l => by simp only [cmpF]; rw [if_pos (cmpI_0.2 rfl)]; exact cmp_self
theorem cmp_app : ∀ {p a b : List Int}, cmpF (p ++ a) (p ++ b) = cmpF a b
  | [], a, b => rfl
  | x :: p, a, b => by simp only [List.cons_append, cmpF]; rw [if_pos (cmpI_0.2 rfl)]; exact cmp_app
theorem cmp_le {r w : List Int} (h : LexLe r w) : cmpF r w ≤ 0 := by
  rcases h with rfl | ⟨m, h1, h2, h3, h4⟩
  · rw [cmp_self]; omega
  · have e1 : r = r.take m ++ r.drop m := (List.take_append_drop m r).symm
    have e2 : w = r.take m ++ w.drop m := by rw [h3]; exact (List.take_append_drop m w).symm
    have e3 : cmpF r w = cmpF (r.drop m) (w.drop m) := by
      have := cmp_app (p := r.take m) (a := r.drop m) (b := w.drop m)
      rwa [← e1, ← e2] at this
    rw [e3, List.drop_eq_getElem_cons h1, List.drop_eq_getElem_cons h2]
    rw [gd_at h1, gd_at h2] at h4
    simp only [cmpF]
    have : cmpI r[m] w[m] = -1 := if_pos h4
    rw [this, if_neg (by omega)]
    omega
theorem LexLe.antisymm {r w : List Int} (h1 : LexLe r w) (h2 : LexLe w r) : r = w := by
  rcases h1 with h1 | ⟨m, a1, a2, a3, a4⟩
  · exact h1
  rcases h2 with h2 | ⟨k, b1, b2, b3, b4⟩
  · exact h2.symm
  exfalso
  have at_take : ∀ {p q : List Int} {i j : Nat}, p.take i = q.take i → j < i → p.getD j 0 = q.getD j 0 := fun {p q i j} h hj => by
    have := congrArg (fun l => List.getD l j 0) h
    simp only [List.getD_eq_getElem?_getD, List.getElem?_take_of_lt hj] at this
    simpa [List.getD_eq_getElem?_getD] using this
  rcases Nat.lt_trichotomy m k with h | h | h
  · have := at_take b3 h; omega
  · subst h; omega
  · have := at_take a3 h; omega

/-- What comes first is found first. -/
theorem dfs_first {may : List Int → Int → Bool} {n size : Int} {w : List Int} (hw : (w.length : Int) = size) (hr : ris w = true) (hn : ∀ x ∈ w, 0 ≤ x ∧ x < n) (hmay : ∀ i, i < w.length → may (w.take i) (w.getD i 0) = true) :
    ∀ (f m : Nat) (frm : Int) (r : List Int), m ≤ w.length → w.length - m < f → (m < w.length → frm ≤ w.getD m 0) → dfsF may n size f frm (w.take m) = some r → (∃ t, r = w.take m ++ t) ∧ LexLe r w
  | 0, m, frm, r, hm, hf, _, _ => by omega
  | f + 1, m, frm, r, hm, hf, hfrm, h => by
    have hl : (w.take m).length = m := by rw [List.length_take]; omega
    rw [dfsF_succ] at h
    split at h
    · rename_i he
      cases h
      refine ⟨⟨[], by simp⟩, .inl (List.take_of_length_le (by omega))⟩
    · rename_i hne
      have hlt : m < w.length := by omega
      obtain ⟨y, y1, y2, y3, y4, y5⟩ := tryX_some _ _ h
      have hz := hfrm hlt
      rcases Int.lt_trichotomy y (w.getD m 0) with hy | hy | hy
      · have hlen := dfs_len _ _ _ _ y4
        -- it begins so
        have pre : ∀ (f : Nat) (frm : Int) (l r : List Int), dfsF may n size f frm l = some r → ∃ t, r = l ++ t := by
          intro f
          induction f with
          | zero => intro frm l r h; simp [dfsF] at h
          | succ f ih =>
            intro frm l r h
            rw [dfsF_succ] at h
            split at h
            · cases h; exact ⟨[], by simp⟩
            · obtain ⟨y, _, _, _, y4, _⟩ := tryX_some _ _ h
              obtain ⟨t, ht⟩ := ih _ _ _ y4
              exact ⟨[y] ++ t, by rw [ht, List.append_assoc]⟩
        obtain ⟨t, ht⟩ := pre _ _ _ _ y4
        refine ⟨⟨[y] ++ t, by rw [ht, List.append_assoc]⟩, .inr ⟨m, by rw [ht]; simp [hl], hlt, ?_, ?_⟩⟩
        · rw [ht, List.append_assoc, List.take_append_of_le_length (by omega), List.take_take, Nat.min_self]
        · rw [ht, List.append_assoc, List.getD_eq_getElem?_getD, List.getElem?_append_right (by omega), hl, Nat.sub_self]
          exact hy
      · subst hy
        rw [← take_snoc hlt] at y4
        obtain ⟨⟨t, ht⟩, hle⟩ := dfs_first hw hr hn hmay f (m + 1) _ r (by omega) (by omega) (fun h => by have := ris_at hr (show m < m + 1 by omega) h; omega) y4
        exact ⟨⟨[w.getD m 0] ++ t, by rw [ht, take_snoc hlt, List.append_assoc]⟩, hle⟩
      · have := y5 (w.getD m 0) hz hy (hmay m hlt)
        rw [← take_snoc hlt] at this
        exact absurd this (dfs_ne hw hr hn f (m + 1) _ (by omega) (by omega) (fun i _ h2 => hmay i h2) (fun h => by have := ris_at hr (show m < m + 1 by omega) h; omega))

/-- What a search looks for: a property that beginnings have, too. -/
structure GoodQ (may : List Int → Int → Bool) (good : List Int → Bool) (n : Int) : Prop where
  eq : ∀ l x, may l x = good (l ++ [x])
  her : ∀ w k, ris w = true → (∀ x ∈ w, 0 ≤ x ∧ x < n) → good w = true → good (w.take k) = true
  nil : good [] = true
/-- A list that is looked for. -/
def Val (good : List Int → Bool) (n : Int) (w : List Int) : Prop := ris w = true ∧ (∀ x ∈ w, 0 ≤ x ∧ x < n) ∧ good w = true

section
variable {may : List Int → Int → Bool} {good : List Int → Bool} {n : Int}
theorem GoodQ.may_at (g : GoodQ may good n) {w : List Int} (h : Val good n w) {i : Nat} (hi : i < w.length) : may (w.take i) (w.getD i 0) = true := by
  rw [g.eq, ← take_snoc hi]
  exact g.her w _ h.1 h.2.1 h.2.2
theorem GoodQ.valid (g : GoodQ may good n) {s : Nat} {r : List Int} {f : Nat} (h : dfsF may n s f 0 [] = some r) : r.length = s ∧ Val good n r := by
  obtain ⟨h1, h2, h3, h4⟩ := dfs_sound0 (by omega) h
  refine ⟨by omega, h2, h3, ?_⟩
  cases s with
  | zero =>
    have : r = [] := List.eq_nil_of_length_eq_zero (by omega)
    rw [this]; exact g.nil
  | succ s =>
    have := h4 s (by omega)
    rw [g.eq, ← take_snoc (by omega), List.take_of_length_le (by omega)] at this
    exact this
theorem GoodQ.ne (g : GoodQ may good n) {w : List Int} (h : Val good n w) (hs : w.length ≤ 60) : dfsF may n w.length 62 0 [] ≠ none := by
  have := dfs_ne (may := may) (n := n) (size := (w.length : Int)) (w := w) rfl h.1 h.2.1 62 0 0 (by omega) (by omega) (fun i _ hi => g.may_at h hi) (fun hh => (h.2.1 _ (mem_at hh)).1)
  rwa [List.take_zero] at this
theorem GoodQ.first (g : GoodQ may good n) {w r : List Int} (h : Val good n w) (hs : w.length ≤ 60) (hr : dfsF may n w.length 62 0 [] = some r) : LexLe r w := by
  have := dfs_first (may := may) (n := n) (size := (w.length : Int)) (w := w) rfl h.1 h.2.1 (fun i hi => g.may_at h hi) 62 0 0 r (by omega) (by omega) (fun hh => (h.2.1 _ (mem_at hh)).1) (by rw [List.take_zero]; exact hr)
  exact this.2
theorem Val.take (g : GoodQ may good n) {w : List Int} (h : Val good n w) (k : Nat) : Val good n (w.take k) := ⟨ris_take h.1, fun x hx => h.2.1 x (List.mem_of_mem_take hx), g.her w k h.1 h.2.1 h.2.2⟩
theorem Val.len {w : List Int} (h : Val good n w) (hn : 0 ≤ n) : (w.length : Int) ≤ n := by
  have := ris_short (n := n - 1) (by omega) h.1 (fun x hx => by have := h.2.1 x hx; omega)
  omega

/-- The most. -/
theorem GoodQ.most (g : GoodQ may good n) (h0 : 0 ≤ n) (h50 : n ≤ 50) {M : List Int} (hM : M = mostL (fun s => growF may n s 62 0 0 []) 62 []) : Val good n M ∧ (∀ w, Val good n w → w.length ≤ M.length ∧ (w.length = M.length → LexLe M w)) ∧ M.length ≤ 50 := by
  obtain ⟨h1, h2, h3⟩ := most_is (S := fun s => growF may n s 62 0 0 []) (N := 50) (fun m h => sr_len' h0 (by omega) m h) 62 [] (by simp) (by simp) (.inl rfl)
  rw [← hM] at h1 h2 h3
  have hval : Val good n M := by
    rcases h1 with h1 | ⟨h1, h1'⟩
    · rw [h1]; exact ⟨rfl, (fun x hx => nomatch hx), g.nil⟩
    · cases hd : dfsF may n M.length 62 0 [] with
      | none => rw [sr_none hd] at h1; cases h1
      | some r =>
        obtain ⟨s1, s2, _⟩ := sr_some hd
        rw [h1', s2]
        exact (g.valid hd).2
  refine ⟨hval, fun w hw => ?_, h3⟩
  have hwl := hw.len h0
  have hle : w.length ≤ M.length := by
    rcases Nat.lt_or_ge M.length w.length with hlt | hle
    · exfalso
      have hv := hw.take g (M.length + 1)
      have hl : (w.take (M.length + 1)).length = M.length + 1 := by rw [List.length_take]; omega
      have := g.ne hv (by omega)
      rw [hl] at this
      cases hd : dfsF may n ((M.length + 1 : Nat) : Int) 62 0 [] with
      | none => exact this hd
      | some r =>
        have := (sr_some hd).1
        rw [Int.natCast_add] at this
        exact absurd this (by rw [show (((1 : Nat) : Int)) = 1 from rfl, h2]; simp)
    · exact hle
  refine ⟨hle, fun he => ?_⟩
  rcases h1 with h1 | ⟨h1, h1'⟩
  · rw [h1] at he ⊢
    exact .inl (List.eq_nil_of_length_eq_zero he).symm
  · cases hd : dfsF may n M.length 62 0 [] with
    | none => rw [sr_none hd] at h1; cases h1
    | some r =>
      obtain ⟨s1, s2, _⟩ := sr_some hd
      rw [h1', s2]
      rw [← he] at hd
      exact g.first hw (by omega) hd
end
end Go.Caps

set_option linter.unusedVariables false
set_option linter.unusedSimpArgs false
namespace Go.Caps
open Go Go.Ab Go.Proofs

def goodM (n : Int) (l : List Int) : Bool := nodK (diffs n l)
theorem okR_mk {n : Int} {l : List Int} (h2 : 2 ≤ n) (h40 : n ≤ 40) (hr : ris l = true) (hb : ∀ x ∈ l, 0 ≤ x ∧ x < n) : okR n l = true := by
  unfold okR
  rw [hr]
  simp only [Bool.and_eq_true, decide_eq_true_eq, List.all_eq_true, inC]
  exact ⟨⟨⟨h2, h40⟩, trivial⟩, hb⟩
theorem difOk.sub {n : Int} {l m : List Int} (h : difOk n l) (hs : ∀ x ∈ m, x ∈ l) : difOk n m := fun a1 h1 a2 h2 b1 h3 b2 h4 => h a1 (hs _ h1) a2 (hs _ h2) b1 (hs _ h3) b2 (hs _ h4)
theorem goodQ_M {n : Int} (h2 : 2 ≤ n) (h40 : n ≤ 40) : GoodQ (mayM n) (goodM n) n := by
  refine ⟨fun l x => rfl, fun w k hr hb hg => ?_, rfl⟩
  have h1 := okR_mk h2 h40 hr hb
  have h3 := okR_mk h2 h40 (ris_take (n := k) hr) (fun x hx => hb x (List.mem_of_mem_take hx))
  exact (dif_iff h3).2 (((dif_iff h1).1 hg).sub fun x hx => List.mem_of_mem_take hx)

/-! ### How many -/
/-! ### Moved -/
theorem most_ok {n : Int} (h1 : 2 ≤ n) (h2 : n ≤ 25) : ∃ M, mostX n = (M, 0, ()) ∧ okR n M = true ∧ goodM n M = true ∧ (∀ l, okR n l = true → goodM n l = true → l.length ≤ M.length ∧ (l.length = M.length → cmpF M l ≤ 0)) ∧ M.length ≤ 50 := by
  obtain ⟨m1, m2, m3⟩ := (goodQ_M h1 (by omega)).most (n := n) (by omega) (by omega) rfl
  refine ⟨_, ?_, okR_mk h1 (by omega) m1.1 m1.2.1, m1.2.2, fun l hl hg => ?_, m3⟩
  · unfold mostX srM
    rw [decide_eq_true h1, decide_eq_true h2]; rfl
  · obtain ⟨_, _, k3, k4⟩ := okR_spec hl
    obtain ⟨a, b⟩ := m2 l ⟨k3, k4, hg⟩
    exact ⟨a, fun e => cmp_le (b e)⟩

end Go.Caps

set_option linter.unusedVariables false
set_option linter.unusedSimpArgs false
namespace Go.Caps
open Go Go.Ab Go.Proofs

theorem goal101 : con101.goal Try.prog (spOf []) g101_sh [] lm30 := by
  have e : (∀ (d p : Int), (d = 2 ∨ d = 3 ∨ d = 5) → g101 d p = some (divQ p d, ())) = con101.goal Try.prog (spOf []) g101_sh [] lm30 := by kernel_rfl
  rw [← e]
  intro d p h
  have hd : d ≠ 0 := by omega
  unfold g101 divQ
  cases ilt d p <;> simp [gd_true, hd]
set_option maxRecDepth 100000 in
theorem ok101 : con101.Ok Try.prog := Con.of_goal mixed okN con101 goal101
theorem goal98d : con98d.goal Try.prog (spOf [con101]) g98d_sh [] lm30 := by
  have e : (∀ (l : List Int) (p : Int), l235 l → g98d l p = some (ixD p, ())) = con98d.goal Try.prog (spOf [con101]) g98d_sh [] lm30 := by kernel_rfl
  rw [← e]
  rintro l p rfl
  unfold g98d
  have w1 : wr .i64 1 = 1 := by decide
  have w2 : wr .i64 2 = 2 := by decide
  have w3 : wr .i64 3 = 3 := by decide
  have step : ∀ (i : Nat) (d : Int), i < 3 → ([2, 3, 5] : List Int).getD i 0 = d → (d = 2 ∨ d = 3 ∨ d = 5) := fun i d hi e => by
    have : i = 0 ∨ i = 1 ∨ i = 2 := by omega
    rcases this with rfl | rfl | rfl <;> simp at e <;> omega
  unfold ixD
  cases h2 : divQ p 2 with
  | true =>
    rw [if_pos rfl]
    refine whileO_out ?_
    simp [ilt, gd_true, h2]
  | false =>
    rw [if_neg (by simp)]
    refine (whileO_go (s' := (p, 1, ())) (by simp [ilt, gd_true, h2, w1])).trans ?_
    cases h3 : divQ p 3 with
    | true =>
      rw [if_pos rfl]
      refine whileO_out ?_
      simp [ilt, gd_true, h3]
    | false =>
      rw [if_neg (by simp)]
      refine (whileO_go (s' := (p, 2, ())) (by simp [ilt, gd_true, h3, w2])).trans ?_
      cases h5 : divQ p 5 with
      | true =>
        rw [if_pos rfl]
        refine whileO_out ?_
        simp [ilt, gd_true, h5]
      | false =>
        rw [if_neg (by simp)]
        refine (whileO_go (s' := (p, 3, ())) (by simp [ilt, gd_true, h5, w3])).trans ?_
        refine whileO_out ?_
        simp [ilt, gd_true]
set_option maxRecDepth 100000 in
theorem ok98d : con98d.Ok Try.prog := Con.of_goal mixed (okC ok101 okN) con98d goal98d
theorem goal72d : con72d.goal Try.prog (spOf [con98d]) g72d_sh [] lm30 := by
  have e : (∀ (l : List Int) (p : Int), l235 l → g72d l p = some (ile 0 (ixD p), ())) = con72d.goal Try.prog (spOf [con98d]) g72d_sh [] lm30 := by kernel_rfl
  rw [← e]
  intro l p h
  unfold g72d
  rw [gd_pos h]
set_option maxRecDepth 100000 in
theorem ok72d : con72d.Ok Try.prog := Con.of_goal mixed (okC ok98d okN) con72d goal72d

theorem up_loop {S X : Type} {step : S → Option (Lp S X)} (st : Int → S) (n : Int) (val : Nat → Int → X) (h0 : ∀ p, p = n + 1 → step (st p) = some (.out (val 0 p)))
    (hs : ∀ f p, 2 ≤ p → p ≤ n → step (st p) = some (.out (val (f + 1) p)) ∨ (step (st p) = some (.go (st (p + 1))) ∧ val (f + 1) p = val f (p + 1))) : ∀ (f : Nat) (p : Int), 2 ≤ p → p + f = n + 1 → whileO step (st p) = some (val f p)
  | 0, p, hp, he => whileO_out (h0 p (by omega))
  | f + 1, p, hp, he => by
    rcases hs f p hp (by omega) with h | ⟨h, e⟩
    · exact whileO_out h
    · rw [whileO_go h, e]
      exact up_loop st n val h0 hs f (p + 1) (by omega) (by omega)
theorem goal85 : con85.goal Try.prog (spOf [con72d]) g85_sh [] lm30 := by
  have e : (∀ (n : Int), (2 ≤ n ∧ n ≤ 25) → g85 n = some (wideF n, ())) = con85.goal Try.prog (spOf [con72d]) g85_sh [] lm30 := by kernel_rfl
  rw [← e]
  rintro n ⟨h2, h25⟩
  unfold g85 wideF
  refine up_loop (st := fun p => ((p, ()) : Int × Unit)) n (val := fun f p => ((wideL n f p, ()) : Int × Unit)) (fun p he => ?_) (fun f p hp hpn => ?_) (n - 1).toNat 2 (Int.le_refl _) (by omega)
  · dsimp only
    rw [cond_f (ile_false.2 (by omega)), gd_pos (by decide), Int.tdiv_eq_ediv_of_nonneg (by omega), wr_id (by omega)]
    rfl
  · have hp0 : p ≠ 0 := by omega
    have m1 : 0 ≤ n * (p + 1) := Int.mul_nonneg (by omega) (by omega)
    have m2 : n * (p + 1) ≤ 25 * 26 := Int.mul_le_mul (by omega) (by omega) (by omega) (by omega)
    have m3 : n * (p + 1) / (3 * p) ≤ n * (p + 1) := Int.ediv_le_self _ m1
    have m4 : 0 ≤ n * (p + 1) / (3 * p) := Int.ediv_nonneg m1 (by omega)
    have e3 : (3 : Int) ≠ 0 := by decide
    have w1 : wr .i64 (p + 1) = p + 1 := wr_id (by omega)
    have w2 : wr .i64 (n * (p + 1)) = n * (p + 1) := wr_id (by omega)
    have w3 : wr .i64 (3 * p) = 3 * p := wr_id (by omega)
    simp only [wideL]
    by_cases hA : (!ile 0 (ixD p) && ieq (Int.tmod p 3) 2 && ieq (Int.tmod n p) 0) = true
    · left
      rw [if_pos hA]
      simp only [Bool.and_eq_true] at hA
      rw [cond_t (ile_iff.2 hpn), hA.1.1, hA.1.2, hA.2, w1, w2, w3]
      simp only [gd_true, cond_true, true_imp_iff, implies_true, true_and, gd_pos e3, gd_pos hp0]
      rw [gd_pos (by omega), Int.tdiv_eq_ediv_of_nonneg m1, wr_id (by omega)]
    · right
      rw [if_neg hA]
      refine ⟨?_, rfl⟩
      rw [cond_t (ile_iff.2 hpn), w1]
      cases hx : (!ile 0 (ixD p)) <;> cases hy : ieq (Int.tmod p 3) 2 <;> cases hz : ieq (Int.tmod n p) 0 <;> rw [hx, hy, hz] at hA <;> simp [gd_true, hp0] at hA ⊢
set_option maxRecDepth 100000 in
theorem ok85 : con85.Ok Try.prog := Con.of_goal mixed (okC ok72d okN) con85 goal85

/-! ### At most so many -/
/-- Sums of one number and those of a set, modulo n. -/
def rotM (n m y : Nat) : Nat := (m <<< y) ||| (m >>> (n - y))
theorem rot_bit {n m y d : Nat} (hy : y < n) (hd : d < n) (hm : ∀ z, m.testBit z = true → z < n) (h : (rotM n m y).testBit d = true) : ∃ z, m.testBit z = true ∧ (z + y) % n = d := by
  unfold rotM at h
  rw [Nat.testBit_or, Bool.or_eq_true, Nat.testBit_shiftLeft, Bool.and_eq_true, decide_eq_true_eq, Nat.testBit_shiftRight] at h
  rcases h with ⟨h1, h2⟩ | h
  · exact ⟨d - y, h2, by rw [Nat.sub_add_cancel h1, Nat.mod_eq_of_lt hd]⟩
  · refine ⟨n - y + d, h, ?_⟩
    rw [show n - y + d + y = d + n by omega, Nat.add_mod_right, Nat.mod_eq_of_lt hd]
/-- Whether so many more numbers from x on can be added to those of m; none of forb. -/
def sfB (n : Nat) : Nat → Nat → Nat → Nat → Bool
  | 0, _, _, _ => true
  | need + 1, x, m, forb => (List.range' x (n - need - x)).any fun y => bif forb.testBit y then false else force' (m ||| 1 <<< y) fun m' => force' (forb ||| (rotM n m' y ||| rotM n m' (n - y))) fun f' => bif Nat.beq (m' &&& f') 0 then sfB n need (y + 1) m' f' else false

/-- Free of sums, with numbers. -/
def SF (n : Nat) (w : List Nat) : Prop := w.Pairwise (· < ·) ∧ (∀ x ∈ w, x < n) ∧ ∀ a ∈ w, ∀ b ∈ w, (a + b) % n ∉ w

theorem sfB_ok {n : Nat} {w : List Nat} (h : SF n w) : ∀ (need i x m forb : Nat), i + need = w.length → (∀ j, i ≤ j → (hj : j < w.length) → x ≤ w[j]) → (∀ z, m.testBit z = true ↔ z ∈ w.take i) → (∀ z ∈ w, forb.testBit z = false) → sfB n need x m forb = true
  | 0, _, _, _, _, _, _, _, _ => rfl
  | need + 1, i, x, m, forb, hl, hx, hm, hf => by
    obtain ⟨h1, h2, h3⟩ := h
    have hi : i < w.length := by omega
    have hyw : w[i] ∈ w := List.getElem_mem hi
    have hyn := h2 _ hyw
    have room : ∀ (d j : Nat), (hj : j + d < w.length) → w[j] + d ≤ w[j + d] := by
      intro d
      induction d with
      | zero => intro j hj; simp
      | succ d ih =>
        intro j hj
        have a := ih j (by omega)
        have b := List.pairwise_iff_getElem.1 h1 (j + d) (j + (d + 1)) (by omega) (by omega) (by omega)
        omega
    have hr := room need i (by omega)
    have hlast := h2 _ (List.getElem_mem (show i + need < w.length by omega))
    simp only [sfB, List.any_eq_true, force_eq']
    refine ⟨w[i], List.mem_range'_1.2 ⟨hx i (Nat.le_refl _) hi, by have := hx i (Nat.le_refl _) hi; omega⟩, ?_⟩
    rw [hf _ hyw, cond_false]
    have hm' : ∀ z, (m ||| 1 <<< w[i]).testBit z = true ↔ z ∈ w.take (i + 1) := fun z => by
      rw [Nat.testBit_or, Bool.or_eq_true, hm, Nat.one_shiftLeft, Nat.testBit_two_pow, decide_eq_true_eq, List.take_succ_eq_append_getElem hi, List.mem_append, List.mem_singleton]
      exact or_congr Iff.rfl eq_comm
    have hm2 : ∀ z, (m ||| 1 <<< w[i]).testBit z = true → z ∈ w := fun z hz => List.mem_of_mem_take ((hm' z).1 hz)
    have hf' : ∀ z ∈ w, (forb ||| (rotM n (m ||| 1 <<< w[i]) w[i] ||| rotM n (m ||| 1 <<< w[i]) (n - w[i]))).testBit z = false := fun z hz => by
      rw [Bool.eq_false_iff]
      intro hb
      rw [Nat.testBit_or, Nat.testBit_or, Bool.or_eq_true, Bool.or_eq_true, hf z hz] at hb
      rcases hb with hb | hb | hb
      · cases hb
      · obtain ⟨u, u1, u2⟩ := rot_bit hyn (h2 z hz) (fun q hq => h2 q (hm2 q hq)) hb
        exact h3 u (hm2 u u1) _ hyw (u2 ▸ hz)
      · by_cases h0 : w[i] = 0
        · have := h3 _ hyw _ hyw
          rw [h0] at this
          simp only [Nat.add_zero, Nat.zero_mod] at this
          exact this (h0 ▸ hyw)
        · obtain ⟨u, u1, u2⟩ := rot_bit (show n - w[i] < n by omega) (h2 z hz) (fun q hq => h2 q (hm2 q hq)) hb
          have hu := h2 u (hm2 u u1)
          have : (z + w[i]) % n = u := by
            rw [← u2, Nat.mod_add_mod, show u + (n - w[i]) + w[i] = u + n by omega, Nat.add_mod_right, Nat.mod_eq_of_lt hu]
          exact h3 z hz _ hyw (this ▸ hm2 u u1)
    have hz : (m ||| 1 <<< w[i]) &&& (forb ||| (rotM n (m ||| 1 <<< w[i]) w[i] ||| rotM n (m ||| 1 <<< w[i]) (n - w[i]))) = 0 := by
      refine Nat.eq_of_testBit_eq fun d => ?_
      rw [Nat.zero_testBit, Nat.testBit_and, Bool.eq_false_iff]
      intro hb
      rw [Bool.and_eq_true] at hb
      rw [hf' d (hm2 d hb.1)] at hb
      cases hb.2
    rw [hz]
    show sfB n need (w[i] + 1) _ _ = true
    refine sfB_ok ⟨h1, h2, h3⟩ need (i + 1) _ _ _ (by omega) (fun j hj hjw => ?_) hm' hf'
    have := List.pairwise_iff_getElem.1 h1 i j hi hjw (by omega)
    omega
theorem SF.lt {n : Nat} {w : List Nat} (h : SF n w) {k : Nat} (hk : sfB n k 0 0 0 = false) : w.length < k := by
  rcases Nat.lt_or_ge w.length k with hlt | hge
  · exact hlt
  · have ht : SF n (w.take k) := ⟨h.1.sublist (List.take_sublist _ _), fun x hx => h.2.1 x (List.mem_of_mem_take hx), fun a ha b hb hm => h.2.2 a (List.mem_of_mem_take ha) b (List.mem_of_mem_take hb) (List.mem_of_mem_take hm)⟩
    have := sfB_ok ht k 0 0 0 0 (by rw [List.length_take]; omega) (fun j _ _ => Nat.zero_le _) (fun z => by simp) (fun z _ => by simp)
    rw [hk] at this; cases this
set_option maxRecDepth 100000 in
theorem wide_most : ∀ k ∈ List.range 24, sfB (k + 2) ((wideF ((k + 2 : Nat) : Int)).toNat + 1) 0 0 0 = false ∧ 1 ≤ wideF ((k + 2 : Nat) : Int) ∧ wideF ((k + 2 : Nat) : Int) ≤ 12 ∧ 2 * wideF ((k + 2 : Nat) : Int) ≤ ((k + 2 : Nat) : Int) ∧ (((k + 2 : Nat) : Int) % 2 = 1 ∨ 2 * wideF ((k + 2 : Nat) : Int) = ((k + 2 : Nat) : Int)) := by decide +kernel
def witW : List (List Int) := [[1], [1], [1, 3], [1, 4], [1, 3, 5], [1, 3], [1, 3, 5, 7], [1, 3, 8], [1, 3, 5, 7, 9], [1, 3, 8, 10], [1, 3, 5, 7, 9, 11], [1, 3, 5, 12], [1, 3, 5, 7, 9, 11, 13], [1, 4, 6, 9, 11, 14], [1, 3, 5, 7, 9, 11, 13, 15], [1, 3, 5, 12, 14, 16], [1, 3, 5, 7, 9, 11, 13, 15, 17], [1, 3, 5, 7, 16, 18], [1, 3, 5, 7, 9, 11, 13, 15, 17, 19], [1, 3, 5, 7, 16, 18, 20], [1, 3, 5, 7, 9, 11, 13, 15, 17, 19, 21], [1, 3, 5, 7, 16, 18, 20, 22], [1, 3, 5, 7, 9, 11, 13, 15, 17, 19, 21, 23], [1, 4, 6, 9, 11, 14, 16, 19, 21, 24]]
set_option maxRecDepth 100000 in
theorem wit_ok : ∀ k ∈ List.range 24, ris (witW.getD k []) = true ∧ (witW.getD k []).all (inC ((k + 2 : Nat) : Int)) = true ∧ freeS ((k + 2 : Nat) : Int) (witW.getD k []) = true ∧ ((witW.getD k []).length : Int) = wideF ((k + 2 : Nat) : Int) := by decide +kernel

theorem freeS_iff {n : Int} {l : List Int} : freeS n l = true ↔ ∀ a ∈ l, ∀ b ∈ l, (a + b) % n ∉ l := by
  unfold freeS
  simp only [List.all_eq_true, Bool.not_eq_true', List.contains_eq_mem, decide_eq_false_iff_not]
theorem free_max {n : Int} (h2 : 2 ≤ n) (h25 : n ≤ 25) {l : List Int} (hr : ris l = true) (hb : ∀ x ∈ l, 0 ≤ x ∧ x < n) (hg : freeS n l = true) : (l.length : Int) ≤ wideF n := by
  obtain ⟨k, hk, rfl⟩ : ∃ k : Nat, k < 24 ∧ n = ((k + 2 : Nat) : Int) := ⟨n.toNat - 2, by omega, by omega⟩
  obtain ⟨w1, w2, w3, _, _⟩ := wide_most k (List.mem_range.2 hk)
  have hsf : SF (k + 2) (l.map Int.toNat) := by
    have mem : ∀ {z : Nat}, z ∈ l.map Int.toNat ↔ (z : Int) ∈ l := fun {z} => by
      rw [List.mem_map]
      constructor
      · rintro ⟨x, hx, rfl⟩
        rwa [Int.toNat_of_nonneg (hb x hx).1]
      · exact fun h => ⟨_, h, by simp⟩
    refine ⟨?_, fun z hz => by have := hb _ (mem.1 hz); omega, fun a ha b hbb hm => ?_⟩
    · rw [List.pairwise_map]
      exact List.Pairwise.imp_of_mem (fun {x y} hx hy h => by have := hb x hx; have := hb y hy; omega) (ris_pw hr)
    · have := freeS_iff.1 hg _ (mem.1 ha) _ (mem.1 hbb)
      refine this ?_
      have := mem.1 hm
      rwa [Int.natCast_emod, Int.natCast_add] at this
  have := hsf.lt w1
  rw [List.length_map] at this
  omega

theorem goodQ_W {n : Int} : GoodQ (mayW n) (freeS n) n :=
  ⟨fun l x => rfl, fun w k _ _ hg => freeS_iff.2 fun a ha b hb hm => freeS_iff.1 hg a (List.mem_of_mem_take ha) b (List.mem_of_mem_take hb) (List.mem_of_mem_take hm), rfl⟩
/-- Wide returns the first of the greatest. -/
theorem wide_ok {n : Int} (h2 : 2 ≤ n) (h25 : n ≤ 25) : ∃ W, wideX n = (W, 0, ()) ∧ okR n W = true ∧ freeS n W = true ∧ (W.length : Int) = wideF n ∧ (∀ l, okR n l = true → freeS n l = true → l.length ≤ W.length ∧ (l.length = W.length → LexLe W l)) ∧ 2 * W.length ≤ n ∧ (n % 2 = 1 ∨ 2 * (W.length : Int) = n) := by
  obtain ⟨k, hk, rfl⟩ : ∃ k : Nat, k < 24 ∧ n = ((k + 2 : Nat) : Int) := ⟨n.toNat - 2, by omega, by omega⟩
  obtain ⟨_, w2, w3, w4, w5⟩ := wide_most k (List.mem_range.2 hk)
  obtain ⟨v1, v2, v3, v4⟩ := wit_ok k (List.mem_range.2 hk)
  generalize hN : ((k + 2 : Nat) : Int) = n at *
  have g := goodQ_W (n := n)
  have hv : Val (freeS n) n (witW.getD k []) := ⟨v1, fun x hx => by
    have := List.all_eq_true.1 v2 x hx
    simpa only [inC, Bool.and_eq_true, decide_eq_true_eq] using this, v3⟩
  have hne := g.ne hv (by omega)
  rw [v4] at hne
  cases hd : dfsF (mayW n) n (wideF n) 62 0 [] with
  | none => exact absurd hd hne
  | some W =>
    obtain ⟨s1, s2, _⟩ := sr_some hd
    obtain ⟨s, hs⟩ : ∃ s : Nat, wideF n = s := ⟨(wideF n).toNat, by omega⟩
    rw [hs] at hd
    obtain ⟨q1, q2⟩ := g.valid hd
    refine ⟨W, ?_, okR_mk h2 (by omega) q2.1 q2.2.1, q2.2.2, by omega, fun l hl hg => ?_, by omega, by omega⟩
    · unfold wideX srW
      rw [decide_eq_true h2, decide_eq_true h25, s1, s2]; rfl
    · obtain ⟨_, _, k3, k4⟩ := okR_spec hl
      have hm := free_max h2 h25 k3 k4 hg
      refine ⟨by omega, fun e => ?_⟩
      have hvl : Val (freeS n) n l := ⟨k3, k4, hg⟩
      rw [← q1, ← e] at hd
      exact g.first hvl (by omega) hd

theorem goal47 : con47.goal Try.prog (spS [con77w] [con85, con86]) g47_sh [] lm30 := by
  have e : (∀ (n : Int), g47 n = some (wideX n)) = con47.goal Try.prog (spS [con77w] [con85, con86]) g47_sh [] lm30 := by kernel_rfl
  rw [← e]
  intro n
  unfold g47 wideX
  by_cases h1 : n < 2
  · have : decide (2 ≤ n) = false := by simpa using h1
    simp [ilt_iff.2 h1, gd_true, this]
  by_cases h2 : 25 < n
  · have : decide (n ≤ 25) = false := by simpa using h2
    simp [ilt_false.2 (Int.not_lt.1 h1), ilt_iff.2 h2, gd_true, this]
  have hw : 1 ≤ wideF n ∧ wideF n ≤ 60 := by
    obtain ⟨k, hk, rfl⟩ : ∃ k : Nat, k < 24 ∧ n = ((k + 2 : Nat) : Int) := ⟨n.toNat - 2, by omega, by omega⟩
    obtain ⟨_, w2, w3, _⟩ := wide_most k (List.mem_range.2 hk)
    omega
  rw [decide_eq_true (Int.not_lt.1 h1), decide_eq_true (Int.not_lt.1 h2), ilt_false.2 (Int.not_lt.1 h1), ilt_false.2 (Int.not_lt.1 h2)]
  simp only [Bool.not_false, imp_self, gd_true, cond_false, Bool.and_self, if_true, gd_pos (show qOk n n from ⟨by omega, by omega, rfl⟩), gd_pos (show 2 ≤ n ∧ n ≤ 25 by omega), gd_pos hw, forall_const, implies_true]
  cases (srW n (wideF n)).1 <;> rfl
set_option maxRecDepth 100000 in
theorem ok47 : con47.Ok Try.prog := Con.of_goalS mixed (okC ok85 (okC ok86 okN)) (okS ok77w okS0) con47 goal47
end Go.Caps

set_option linter.unusedVariables false
set_option linter.unusedSimpArgs false
namespace Go.Caps
open Go Go.Ab Go.Proofs

end Go.Caps
