/- The law Most: contracts. -/
import Derived.Test.YtiiiojjaphckbaaXR
set_option linter.unusedVariables false
set_option linter.unusedSimpArgs false
namespace Go.Caps
open Go Go.Ab Go.Proofs

/-! Greatest: caps. -/
def mayD (d : Int) (l : List Int) (x : Int) : Bool := (freeF d l).contains x
def dkOk (k : DeckD) : Prop := isD k.1 = true ∧ k.2.1 = sizeF k.1
def cdOk (d : Int) (l : List Int) : Prop := (∀ x ∈ l, inC (sizeF d) x = true) ∧ l.length ≤ 81
noncomputable def con83 : Con := mkC 83 [.d Deck, .d LI, .d I64] [.bool] (fun (k : DeckD) (l : List Int) (x : Int) => [dkOk k, cdOk k.1 l]) (fun (k : DeckD) (l : List Int) (x : Int) => (mayD k.1 l x, ()))
noncomputable def g83 (x0 : Int × Int × Unit) (x1 : List Int) (x2 : Int) : Option (Bool × Unit) := gd ((2 : Nat) ≤ (2 : Nat)) (gd (isD x0.1 = true) (gd (x0.2.1 = sizeF x0.1) (gd (∀ (x3 : Int), List.Mem x3 x1 → inC (sizeF x0.1) x3 = true) (gd (List.length x1 ≤ (81 : Nat)) (gd (small (freeF x0.1 x1)) (some ((List.contains (freeF x0.1 x1) x2, ()) : Bool × Unit)))))))
noncomputable def g83_sh : List LSh := ([] : List LSh)
abbrev F83 : TV := .fn 4179 (.cons (.v Deck) .nil)
abbrev I99d : List TB := [.cells [.sl 5 1 0], .cells [.v I64], .cells [.v I64], .cells [F83], .cells [Gr99], .arr I64 true]
abbrev O99d : List TB := [.cells [.sl 6 1 0], .cells [.v I64], .cells [.v I64], .cells [F83], .cells [Gr99], .dead, .arr I64 true]
def dOk (n : Int) (k : DeckD) : Prop := dkOk k ∧ n = sizeF k.1
noncomputable def con99d (f : Nat) : SCon := mkS 99 A99 I99d [.v .bool] O99d (fun (frm len size n : Int) (k : DeckD) (a : List Int) => [pre99 f frm len n size a, dOk n k]) (fun (frm len size n : Int) (k : DeckD) (a : List Int) => ((growF (mayD k.1) n size f frm len a).1, (growF (mayD k.1) n size f frm len a).2.1, size, n, k, (growF (mayD k.1) n size f frm len a).2.2.1, ()))
noncomputable def g99d (f : Nat) (x0 x1 x2 x3 : Int) (x4 : Int × Int × Unit) (x5 : List Int) : Option (Bool × Int × Int × Int × (Int × Int × Unit) × List Int × Unit) := bif ieq (↑(Int.toNat x1) : Int) x2 then some ((true, (↑(Int.toNat x1) : Int), x2, x3, x4, x5, ()) : Bool × Int × Int × Int × (Int × Int × Unit) × List Int × Unit) else whileO (fun (d7 : Int × Int × Int × Int × (Int × Int × Unit) × List Int × Unit) => bif ile d7.1 (wr IntKind.i64 (d7.2.2.2.1 - wr IntKind.i64 (d7.2.2.1 - (↑(Int.toNat d7.2.1) : Int)))) then gd ((0 : Nat) + Int.toNat d7.2.1 ≤ List.length d7.2.2.2.2.2.1) (gd (dkOk d7.2.2.2.2.1) (gd (cdOk d7.2.2.2.2.1.1 (List.take (Int.toNat d7.2.1) (List.drop (0 : Nat) d7.2.2.2.2.2.1))) (bif mayD d7.2.2.2.2.1.1 (List.take (Int.toNat d7.2.1) (List.drop (0 : Nat) d7.2.2.2.2.2.1)) d7.1 then gd (Int.toNat d7.2.1 ≤ List.length d7.2.2.2.2.2.1) (gd ((Int.toNat d7.2.1 + (1 : Nat)) * (8 : Nat) ≤ (1099511627776 : Nat)) (gd (pre99 f (wr IntKind.i64 (d7.1 + (1 : Int))) (↑(Int.toNat d7.2.1 + (1 : Nat)) : Int) d7.2.2.2.1 d7.2.2.1 (List.take (Int.toNat d7.2.1) d7.2.2.2.2.2.1 ++ d7.1 :: ([] : List Int))) (gd (dOk d7.2.2.2.1 d7.2.2.2.2.1) (bif (growF (mayD d7.2.2.2.2.1.1) d7.2.2.2.1 d7.2.2.1 f (wr IntKind.i64 (d7.1 + (1 : Int))) (↑(Int.toNat d7.2.1 + (1 : Nat)) : Int) (List.take (Int.toNat d7.2.1) d7.2.2.2.2.2.1 ++ d7.1 :: ([] : List Int))).1 then some (Lp.out ((true, (↑(Int.toNat (growF (mayD d7.2.2.2.2.1.1) d7.2.2.2.1 d7.2.2.1 f (wr IntKind.i64 (d7.1 + (1 : Int))) (↑(Int.toNat d7.2.1 + (1 : Nat)) : Int) (List.take (Int.toNat d7.2.1) d7.2.2.2.2.2.1 ++ d7.1 :: ([] : List Int))).2.1) : Int), d7.2.2.1, d7.2.2.2.1, d7.2.2.2.2.1, (growF (mayD d7.2.2.2.2.1.1) d7.2.2.2.1 d7.2.2.1 f (wr IntKind.i64 (d7.1 + (1 : Int))) (↑(Int.toNat d7.2.1 + (1 : Nat)) : Int) (List.take (Int.toNat d7.2.1) d7.2.2.2.2.2.1 ++ d7.1 :: ([] : List Int))).2.2.1, ()) : Bool × Int × Int × Int × (Int × Int × Unit) × List Int × Unit)) else gd ((0 : Int) ≤ wr IntKind.i64 ((↑(Int.toNat (growF (mayD d7.2.2.2.2.1.1) d7.2.2.2.1 d7.2.2.1 f (wr IntKind.i64 (d7.1 + (1 : Int))) (↑(Int.toNat d7.2.1 + (1 : Nat)) : Int) (List.take (Int.toNat d7.2.1) d7.2.2.2.2.2.1 ++ d7.1 :: ([] : List Int))).2.1) : Int) - (1 : Int)) ∧ wr IntKind.i64 ((↑(Int.toNat (growF (mayD d7.2.2.2.2.1.1) d7.2.2.2.1 d7.2.2.1 f (wr IntKind.i64 (d7.1 + (1 : Int))) (↑(Int.toNat d7.2.1 + (1 : Nat)) : Int) (List.take (Int.toNat d7.2.1) d7.2.2.2.2.2.1 ++ d7.1 :: ([] : List Int))).2.1) : Int) - (1 : Int)) ≤ (↑(Int.toNat (growF (mayD d7.2.2.2.2.1.1) d7.2.2.2.1 d7.2.2.1 f (wr IntKind.i64 (d7.1 + (1 : Int))) (↑(Int.toNat d7.2.1 + (1 : Nat)) : Int) (List.take (Int.toNat d7.2.1) d7.2.2.2.2.2.1 ++ d7.1 :: ([] : List Int))).2.1) : Int)) (some (Lp.go ((wr IntKind.i64 (d7.1 + (1 : Int)), (↑(Int.toNat (wr IntKind.i64 ((↑(Int.toNat (growF (mayD d7.2.2.2.2.1.1) d7.2.2.2.1 d7.2.2.1 f (wr IntKind.i64 (d7.1 + (1 : Int))) (↑(Int.toNat d7.2.1 + (1 : Nat)) : Int) (List.take (Int.toNat d7.2.1) d7.2.2.2.2.2.1 ++ d7.1 :: ([] : List Int))).2.1) : Int) - (1 : Int)))) : Int), d7.2.2.1, d7.2.2.2.1, d7.2.2.2.2.1, (growF (mayD d7.2.2.2.2.1.1) d7.2.2.2.1 d7.2.2.1 f (wr IntKind.i64 (d7.1 + (1 : Int))) (↑(Int.toNat d7.2.1 + (1 : Nat)) : Int) (List.take (Int.toNat d7.2.1) d7.2.2.2.2.2.1 ++ d7.1 :: ([] : List Int))).2.2.1, ()) : Int × Int × Int × Int × (Int × Int × Unit) × List Int × Unit))))))) else some (Lp.go ((wr IntKind.i64 (d7.1 + (1 : Int)), (↑(Int.toNat d7.2.1) : Int), d7.2.2.1, d7.2.2.2.1, d7.2.2.2.2.1, d7.2.2.2.2.2.1, ()) : Int × Int × Int × Int × (Int × Int × Unit) × List Int × Unit))))) else some (Lp.out ((false, (↑(Int.toNat d7.2.1) : Int), d7.2.2.1, d7.2.2.2.1, d7.2.2.2.2.1, d7.2.2.2.2.2.1, ()) : Bool × Int × Int × Int × (Int × Int × Unit) × List Int × Unit))) ((x0, (↑(Int.toNat x1) : Int), x2, x3, x4, x5, ()) : Int × Int × Int × Int × (Int × Int × Unit) × List Int × Unit)
noncomputable def g99d_sh : List LSh := LSh.mk3 (((1, TV.ref (0) (1 : Nat) (0 : Nat) (0 : Nat)) : Nat × TV) :: ((2, TV.ref (1) (1 : Nat) (0 : Nat) (0 : Nat)) : Nat × TV) :: ((3, TV.ref (2) (1 : Nat) (0 : Nat) (0 : Nat)) : Nat × TV) :: ((4, TV.ref (3) (1 : Nat) (0 : Nat) (0 : Nat)) : Nat × TV) :: ((5, TV.ref (4) (1 : Nat) (0 : Nat) (0 : Nat)) : Nat × TV) :: ((8, TV.v (Ty.int IntKind.i64)) : Nat × TV) :: ([] : List (Nat × TV))) (TB.cells (TV.sl (6) (1) (0) :: ([] : List TV)) :: TB.cells (TV.v (Ty.int IntKind.i64) :: ([] : List TV)) :: TB.cells (TV.v (Ty.int IntKind.i64) :: ([] : List TV)) :: TB.cells (TV.fn (4179) (TV.cons (TV.v (Ty.prod (Ty.int IntKind.i64) (Ty.prod (Ty.int IntKind.i64) Ty.unit))) TV.nil) :: ([] : List TV)) :: TB.cells (TV.fn (99) (TV.cons (TV.ref (0) (1 : Nat) (0 : Nat) (0 : Nat)) (TV.cons (TV.ref (1) (1 : Nat) (0 : Nat) (0 : Nat)) (TV.cons (TV.ref (2) (1 : Nat) (0 : Nat) (0 : Nat)) (TV.cons (TV.ref (3) (1 : Nat) (0 : Nat) (0 : Nat)) (TV.cons (TV.ref (4) (1 : Nat) (0 : Nat) (0 : Nat)) TV.nil))))) :: ([] : List TV)) :: TB.dead :: TB.arr (Ty.int IntKind.i64) true :: ([] : List TB)) (6) :: ([] : List LSh)
def srD (d n size : Int) : Srch := growF (mayD d) n size 62 0 0 []
noncomputable def con77d : SCon := mkS 77 [.v I64, .v I64, F83] [] [.opt (.v LI)] [] (fun (n size : Int) (k : DeckD) => [1 ≤ size ∧ size ≤ 60, dOk n k]) (fun (n size : Int) (k : DeckD) => (!(srD k.1 n size).1, bif (srD k.1 n size).1 then foundL (srD k.1 n size) else [], ()))
noncomputable def g77d (x0 x1 : Int) (x2 : Int × Int × Unit) : Option (Bool × List Int × Unit) := gd (pre99 (62 : Nat) (0 : Int) (0 : Int) x0 x1 ([] : List Int)) (gd (dOk x0 x2) (bif !(growF (mayD x2.1) x0 x1 (62 : Nat) (0 : Int) (0 : Int) ([] : List Int)).1 then gd (true = true) (some ((true, ([] : List Int), ()) : Bool × List Int × Unit)) else gd ((0 : Nat) + Int.toNat (growF (mayD x2.1) x0 x1 (62 : Nat) (0 : Int) (0 : Int) ([] : List Int)).2.1 ≤ List.length (growF (mayD x2.1) x0 x1 (62 : Nat) (0 : Int) (0 : Int) ([] : List Int)).2.2.1) (gd (List.length (List.take (Int.toNat (growF (mayD x2.1) x0 x1 (62 : Nat) (0 : Int) (0 : Int) ([] : List Int)).2.1) (List.drop (0 : Nat) (growF (mayD x2.1) x0 x1 (62 : Nat) (0 : Int) (0 : Int) ([] : List Int)).2.2.1)) ≠ (0 : Nat)) (some ((false, List.take (Int.toNat (growF (mayD x2.1) x0 x1 (62 : Nat) (0 : Int) (0 : Int) ([] : List Int)).2.1) (List.drop (0 : Nat) (growF (mayD x2.1) x0 x1 (62 : Nat) (0 : Int) (0 : Int) ([] : List Int)).2.2.1), ()) : Bool × List Int × Unit)))))
noncomputable def g77d_sh : List LSh := ([] : List LSh)
def capN (d : Int) : Int := if d = 1 then 2 else if d = 2 then 4 else 9
def grtX (d : Int) : List Int × Int × Unit := if decide (1 ≤ d) && decide (d ≤ 3) then (bif (srD d (sizeF d) (capN d)).1 then foundL (srD d (sizeF d) (capN d)) else [], 0, ()) else ([], 2, ())
noncomputable def con45 : Con := mkC 45 [.d I64] [LI, I64] (fun (d : Int) => []) (fun (d : Int) => grtX d)
noncomputable def g45 (x0 : Int) : Option (List Int × Int × Unit) := gd (small ([] : List Int)) (gd ((2 : Nat) ≤ (2 : Nat)) (gd ((!!(readF x0 ([] : List Int)).2.1) = true → (!!(readF x0 ([] : List Int)).2.1) = true) (gd ((!(readF x0 ([] : List Int)).2.1) = false → (!!(readF x0 ([] : List Int)).2.1) = true) (bif bif !(readF x0 ([] : List Int)).2.1 then true else ilt (3 : Int) x0 then some ((([] : List Int), (2 : Int), ()) : List Int × Int × Unit) else gd ((0 : Int) ≤ x0 ∧ x0 < (4 : Int)) (gd ((1 : Nat) < (2 : Nat)) (gd ((2 : Nat) ≤ (2 : Nat)) (gd ((1 : Int) ≤ (@id Int (arrGet (4 : Nat) (Ty.int IntKind.i64) ((((0 : Int), (2 : Int), (4 : Int), (9 : Int), ()) : Int × Int × Int × Int × Unit) : Int × Int × Int × Int × Unit) (Int.toNat x0))) ∧ (@id Int (arrGet (4 : Nat) (Ty.int IntKind.i64) ((((0 : Int), (2 : Int), (4 : Int), (9 : Int), ()) : Int × Int × Int × Int × Unit) : Int × Int × Int × Int × Unit) (Int.toNat x0))) ≤ (60 : Int)) (gd (dOk (readF x0 ([] : List Int)).1.2.1 (((readF x0 ([] : List Int)).1.1, (readF x0 ([] : List Int)).1.2.1, ()) : Int × Int × Unit)) (some ((bif !(srD (readF x0 ([] : List Int)).1.1 (readF x0 ([] : List Int)).1.2.1 (@id Int (arrGet (4 : Nat) (Ty.int IntKind.i64) ((((0 : Int), (2 : Int), (4 : Int), (9 : Int), ()) : Int × Int × Int × Int × Unit) : Int × Int × Int × Int × Unit) (Int.toNat x0)))).1 then ([] : List Int) else bif (srD (readF x0 ([] : List Int)).1.1 (readF x0 ([] : List Int)).1.2.1 (@id Int (arrGet (4 : Nat) (Ty.int IntKind.i64) ((((0 : Int), (2 : Int), (4 : Int), (9 : Int), ()) : Int × Int × Int × Int × Unit) : Int × Int × Int × Int × Unit) (Int.toNat x0)))).1 then foundL (srD (readF x0 ([] : List Int)).1.1 (readF x0 ([] : List Int)).1.2.1 (@id Int (arrGet (4 : Nat) (Ty.int IntKind.i64) ((((0 : Int), (2 : Int), (4 : Int), (9 : Int), ()) : Int × Int × Int × Int × Unit) : Int × Int × Int × Int × Unit) (Int.toNat x0)))) else ([] : List Int), (0 : Int), ()) : List Int × Int × Unit))))))))))
noncomputable def g45_sh : List LSh := ([] : List LSh)

/-! the reference -/
def groX (g : Int → List Int → Option (List Int)) (d : Int) (l : List Int) : Nat → Int → Option (List Int)
  | 0, _ => none
  | c + 1, x => if badN d l l.length x = true then groX g d l c (x + 1) else (g (x + 1) (l ++ [x])).orElse fun _ => groX g d l c (x + 1)
def leftN (d : Int) (l : List Int) : Nat → Int → Int
  | 0, _ => 0
  | c + 1, x => (if badN d l l.length x = true then 0 else 1) + leftN d l c (x + 1)
def groF (d n : Int) : Nat → Int → List Int → Option (List Int)
  | 0, _, _ => none
  | f + 1, frm, l => if (l.length : Int) = n then some l else if (l.length : Int) + leftN d l (sizeF d - frm).toNat frm < n then none else groX (groF d n f) d l (sizeF d - frm).toNat frm
def pre87 (f : Nat) (d n frm : Int) (l : List Int) : Prop := isD d = true ∧ 1 ≤ n ∧ n ≤ 20 ∧ 0 ≤ frm ∧ frm ≤ sizeF d ∧ risTo frm l ∧ (l.length : Int) ≤ n ∧ n - l.length < f
noncomputable def con87 (f : Nat) : SCon := mkS 87 [.v I64, .v I64, .v I64, .v LI] [] [.opt (.v LI)] [] (fun (d n frm : Int) (l : List Int) => [pre87 f d n frm l]) (fun (d n frm : Int) (l : List Int) => (isN (groF d n f frm l), optL (groF d n f frm l), ()))
noncomputable def g87 (f : Nat) (x0 x1 x2 : Int) (x3 : List Int) : Option (Bool × List Int × Unit) := bif ieq (↑(List.length x3) : Int) x1 then gd (List.length x3 ≠ (0 : Nat)) (some ((false, x3, ()) : Bool × List Int × Unit)) else whileO (fun (d5 : Int × Int × Unit) => bif ilt d5.2.1 (sizeF x0) then gd (isD x0 = true) (gd (∀ (x6 : Int), List.Mem x6 x3 → cardP x6) (gd (List.length x3 ≤ (81 : Nat)) (bif !badN x0 x3 (List.length x3) d5.2.1 then some (Lp.go ((wr IntKind.i64 (d5.1 + (1 : Int)), wr IntKind.i64 (d5.2.1 + (1 : Int)), ()) : Int × Int × Unit)) else some (Lp.go ((d5.1, wr IntKind.i64 (d5.2.1 + (1 : Int)), ()) : Int × Int × Unit))))) else bif ilt (wr IntKind.i64 ((↑(List.length x3) : Int) + d5.1)) x1 then gd (true = true) (some (Lp.out ((true, ([] : List Int), ()) : Bool × List Int × Unit))) else whileO (fun (d6 : Int × Unit) => bif ilt d6.1 (sizeF x0) then gd (isD x0 = true) (gd (∀ (x6 : Int), List.Mem x6 x3 → cardP x6) (gd (List.length x3 ≤ (81 : Nat)) (bif !badN x0 x3 (List.length x3) d6.1 then gd ((0 : Int) ≤ (↑(List.length x3) : Int) ∧ (↑(List.length x3) : Int) ≤ (↑(List.length x3) : Int) ∧ (↑(List.length x3) : Int) ≤ (↑(List.length x3) : Int)) (gd (List.length x3 < List.length (List.take (List.length x3) x3) + (1 : Nat)) (gd ((List.length (List.take (List.length x3) x3) + (1 : Nat)) * (8 : Nat) ≤ (1099511627776 : Nat)) (gd ((0 : Nat) + (List.length (List.take (List.length x3) x3) + (1 : Nat)) ≤ List.length (List.take (List.length x3) x3 ++ d6.1 :: ([] : List Int))) (gd (pre87 f x0 x1 (wr IntKind.i64 (d6.1 + (1 : Int))) (List.take (List.length (List.take (List.length x3) x3) + (1 : Nat)) (List.drop (0 : Nat) (List.take (List.length x3) x3 ++ d6.1 :: ([] : List Int))))) (bif !isN (groF x0 x1 f (wr IntKind.i64 (d6.1 + (1 : Int))) (List.take (List.length (List.take (List.length x3) x3) + (1 : Nat)) (List.drop (0 : Nat) (List.take (List.length x3) x3 ++ d6.1 :: ([] : List Int))))) then gd (isN (groF x0 x1 f (wr IntKind.i64 (d6.1 + (1 : Int))) (List.take (List.length (List.take (List.length x3) x3) + (1 : Nat)) (List.drop (0 : Nat) (List.take (List.length x3) x3 ++ d6.1 :: ([] : List Int))))) = false → ∀ (x7 : Prop), List.Mem x7 ([] : List Prop) → x7) (some (Lp.out (Lp.out ((isN (groF x0 x1 f (wr IntKind.i64 (d6.1 + (1 : Int))) (List.take (List.length (List.take (List.length x3) x3) + (1 : Nat)) (List.drop (0 : Nat) (List.take (List.length x3) x3 ++ d6.1 :: ([] : List Int))))), optL (groF x0 x1 f (wr IntKind.i64 (d6.1 + (1 : Int))) (List.take (List.length (List.take (List.length x3) x3) + (1 : Nat)) (List.drop (0 : Nat) (List.take (List.length x3) x3 ++ d6.1 :: ([] : List Int))))), ()) : Bool × List Int × Unit)))) else some (Lp.go ((wr IntKind.i64 (d6.1 + (1 : Int)), ()) : Int × Unit))))))) else some (Lp.go ((wr IntKind.i64 (d6.1 + (1 : Int)), ()) : Int × Unit))))) else gd (true = true) (some (Lp.out (Lp.out ((true, ([] : List Int), ()) : Bool × List Int × Unit))))) ((x2, ()) : Int × Unit)) (((0 : Int), x2, ()) : Int × Int × Unit)
noncomputable def g87_sh : List LSh := LSh.mk (((9, TV.v (Ty.int IntKind.i64)) : Nat × TV) :: ((10, TV.v (Ty.int IntKind.i64)) : Nat × TV) :: ([] : List (Nat × TV))) ([] : List TB) :: LSh.mk (((11, TV.v (Ty.int IntKind.i64)) : Nat × TV) :: ([] : List (Nat × TV))) ([] : List TB) :: ([] : List LSh)
noncomputable def con48 : Con := mkC 48 [.d I64] [LI] (fun (d : Int) => [1 ≤ d ∧ d ≤ 3]) (fun (d : Int) => (optL (groF d (capN d) 22 0 []), ()))
noncomputable def g48 (x0 : Int) : Option (List Int × Unit) := gd ((0 : Int) ≤ x0 ∧ x0 < (4 : Int)) (gd (pre87 (22 : Nat) x0 (@id Int (arrGet (4 : Nat) (Ty.int IntKind.i64) ((((0 : Int), (2 : Int), (4 : Int), (9 : Int), ()) : Int × Int × Int × Int × Unit) : Int × Int × Int × Int × Unit) (Int.toNat x0))) (0 : Int) ([] : List Int)) (some ((bif isN (groF x0 (@id Int (arrGet (4 : Nat) (Ty.int IntKind.i64) ((((0 : Int), (2 : Int), (4 : Int), (9 : Int), ()) : Int × Int × Int × Int × Unit) : Int × Int × Int × Int × Unit) (Int.toNat x0))) (22 : Nat) (0 : Int) ([] : List Int)) then ([] : List Int) else optL (groF x0 (@id Int (arrGet (4 : Nat) (Ty.int IntKind.i64) ((((0 : Int), (2 : Int), (4 : Int), (9 : Int), ()) : Int × Int × Int × Int × Unit) : Int × Int × Int × Int × Unit) (Int.toNat x0))) (22 : Nat) (0 : Int) ([] : List Int)), ()) : List Int × Unit)))
noncomputable def g48_sh : List LSh := ([] : List LSh)
def rightF (k n : Int) (l : List Int) : Bool := if k = 0 then nodK (sumsK n l) else if k = 1 then freeS n l else stepsF l
def rightP (k n : Int) (l : List Int) : Prop := l.length ≤ 1000 ∧ (∀ x ∈ l, 0 ≤ x ∧ x ≤ 1000) ∧ ((k = 0 ∨ k = 1) → okR n l = true)
noncomputable def con102 : Con := mkC 102 [.d I64, .d I64, .d LI] [.bool] (fun (k n : Int) (l : List Int) => [rightP k n l]) (fun (k n : Int) (l : List Int) => (rightF k n l, ()))
noncomputable def g102 (x0 x1 : Int) (x2 : List Int) : Option (Bool × Unit) := bif ieq x0 (0 : Int) then gd (okR x1 x2 = true) (some ((nodK (sumsK x1 x2), ()) : Bool × Unit)) else bif ieq x0 (1 : Int) then gd (okR x1 x2 = true) (some ((freeS x1 x2, ()) : Bool × Unit)) else gd (List.length x2 ≤ (1000 : Nat)) (gd (∀ (x3 : Int), List.Mem x3 x2 → (0 : Int) ≤ x3 ∧ x3 ≤ (1000 : Int)) (some ((stepsF x2, ()) : Bool × Unit)))
noncomputable def g102_sh : List LSh := ([] : List LSh)
def seaX (g : Int → List Int → List Int → List Int) (good : List Int → Bool) (n : Int) (l : List Int) : Nat → Int → List Int → List Int
  | 0, _, best => best
  | c + 1, x, best => if (l.length : Int) + n - x ≤ best.length then best else if good (l ++ [x]) = true then seaX g good n l c (x + 1) (g (x + 1) (l ++ [x]) best) else seaX g good n l c (x + 1) best
def seaF (good : List Int → Bool) (n : Int) : Nat → Int → List Int → List Int → List Int
  | 0, _, _, best => best
  | f + 1, frm, l, best => seaX (seaF good n f) good n l (n - frm).toNat frm (if best.length < l.length then l else best)
def pre88 (f : Nat) (k n frm : Int) (l : List Int) : Prop := (k = 0 ∨ k = 1 ∨ k = 2) ∧ 2 ≤ n ∧ n ≤ 40 ∧ 0 ≤ frm ∧ frm ≤ n ∧ risTo frm l ∧ n - frm < f
noncomputable def con88 (f : Nat) : SCon := mkS 88 [.v I64, .v I64, .v I64, .v LI, .ref 0 1 0 0] [.cells [.v LI]] [] [.cells [.v LI]] (fun (k n frm : Int) (l best : List Int) => [pre88 f k n frm l]) (fun (k n frm : Int) (l best : List Int) => (seaF (rightF k n) n f frm l best, ()))
noncomputable def g88 (f : Nat) (x0 x1 x2 : Int) (x3 x4 : List Int) : Option (List Int × Unit) := bif ilt (↑(List.length x4) : Int) (↑(List.length x3) : Int) then whileO (fun (d6 : Int × List Int × Unit) => bif ilt d6.1 x1 then bif ile (wr IntKind.i64 (wr IntKind.i64 ((↑(List.length x3) : Int) + x1) - d6.1)) (↑(List.length d6.2.1) : Int) then some (Lp.out ((d6.2.1, ()) : List Int × Unit)) else gd ((0 : Int) ≤ (↑(List.length x3) : Int) ∧ (↑(List.length x3) : Int) ≤ (↑(List.length x3) : Int) ∧ (↑(List.length x3) : Int) ≤ (↑(List.length x3) : Int)) (gd (List.length x3 < List.length (List.take (List.length x3) x3) + (1 : Nat)) (gd ((List.length (List.take (List.length x3) x3) + (1 : Nat)) * (8 : Nat) ≤ (1099511627776 : Nat)) (gd ((0 : Nat) + (List.length (List.take (List.length x3) x3) + (1 : Nat)) ≤ List.length (List.take (List.length x3) x3 ++ d6.1 :: ([] : List Int))) (gd (rightP x0 x1 (List.take (List.length (List.take (List.length x3) x3) + (1 : Nat)) (List.drop (0 : Nat) (List.take (List.length x3) x3 ++ d6.1 :: ([] : List Int))))) (bif rightF x0 x1 (List.take (List.length (List.take (List.length x3) x3) + (1 : Nat)) (List.drop (0 : Nat) (List.take (List.length x3) x3 ++ d6.1 :: ([] : List Int)))) then gd ((0 : Nat) + (List.length (List.take (List.length x3) x3) + (1 : Nat)) ≤ List.length (List.take (List.length x3) x3 ++ d6.1 :: ([] : List Int))) (gd (pre88 f x0 x1 (wr IntKind.i64 (d6.1 + (1 : Int))) (List.take (List.length (List.take (List.length x3) x3) + (1 : Nat)) (List.drop (0 : Nat) (List.take (List.length x3) x3 ++ d6.1 :: ([] : List Int))))) (some (Lp.go ((wr IntKind.i64 (d6.1 + (1 : Int)), seaF (rightF x0 x1) x1 f (wr IntKind.i64 (d6.1 + (1 : Int))) (List.take (List.length (List.take (List.length x3) x3) + (1 : Nat)) (List.drop (0 : Nat) (List.take (List.length x3) x3 ++ d6.1 :: ([] : List Int)))) d6.2.1, ()) : Int × List Int × Unit)))) else some (Lp.go ((wr IntKind.i64 (d6.1 + (1 : Int)), d6.2.1, ()) : Int × List Int × Unit))))))) else some (Lp.out ((d6.2.1, ()) : List Int × Unit))) ((x2, x3, ()) : Int × List Int × Unit) else whileO (fun (d6 : Int × List Int × Unit) => bif ilt d6.1 x1 then bif ile (wr IntKind.i64 (wr IntKind.i64 ((↑(List.length x3) : Int) + x1) - d6.1)) (↑(List.length d6.2.1) : Int) then some (Lp.out ((d6.2.1, ()) : List Int × Unit)) else gd ((0 : Int) ≤ (↑(List.length x3) : Int) ∧ (↑(List.length x3) : Int) ≤ (↑(List.length x3) : Int) ∧ (↑(List.length x3) : Int) ≤ (↑(List.length x3) : Int)) (gd (List.length x3 < List.length (List.take (List.length x3) x3) + (1 : Nat)) (gd ((List.length (List.take (List.length x3) x3) + (1 : Nat)) * (8 : Nat) ≤ (1099511627776 : Nat)) (gd ((0 : Nat) + (List.length (List.take (List.length x3) x3) + (1 : Nat)) ≤ List.length (List.take (List.length x3) x3 ++ d6.1 :: ([] : List Int))) (gd (rightP x0 x1 (List.take (List.length (List.take (List.length x3) x3) + (1 : Nat)) (List.drop (0 : Nat) (List.take (List.length x3) x3 ++ d6.1 :: ([] : List Int))))) (bif rightF x0 x1 (List.take (List.length (List.take (List.length x3) x3) + (1 : Nat)) (List.drop (0 : Nat) (List.take (List.length x3) x3 ++ d6.1 :: ([] : List Int)))) then gd ((0 : Nat) + (List.length (List.take (List.length x3) x3) + (1 : Nat)) ≤ List.length (List.take (List.length x3) x3 ++ d6.1 :: ([] : List Int))) (gd (pre88 f x0 x1 (wr IntKind.i64 (d6.1 + (1 : Int))) (List.take (List.length (List.take (List.length x3) x3) + (1 : Nat)) (List.drop (0 : Nat) (List.take (List.length x3) x3 ++ d6.1 :: ([] : List Int))))) (some (Lp.go ((wr IntKind.i64 (d6.1 + (1 : Int)), seaF (rightF x0 x1) x1 f (wr IntKind.i64 (d6.1 + (1 : Int))) (List.take (List.length (List.take (List.length x3) x3) + (1 : Nat)) (List.drop (0 : Nat) (List.take (List.length x3) x3 ++ d6.1 :: ([] : List Int)))) d6.2.1, ()) : Int × List Int × Unit)))) else some (Lp.go ((wr IntKind.i64 (d6.1 + (1 : Int)), d6.2.1, ()) : Int × List Int × Unit))))))) else some (Lp.out ((d6.2.1, ()) : List Int × Unit))) ((x2, x4, ()) : Int × List Int × Unit)
noncomputable def g88_sh : List LSh := LSh.mk3 (((4, TV.ref (0) (1 : Nat) (0 : Nat) (0 : Nat)) : Nat × TV) :: ((10, TV.v (Ty.int IntKind.i64)) : Nat × TV) :: ([] : List (Nat × TV))) (TB.cells (TV.v (Ty.slice (Ty.int IntKind.i64)) :: ([] : List TV)) :: ([] : List TB)) (1) :: ([] : List LSh)
noncomputable def con50 : Con := mkC 50 [.d I64, .d I64, .d I64] [LI] (fun (k n frm : Int) => [pre88 62 k n frm []]) (fun (k n frm : Int) => (seaF (rightF k n) n 62 frm [] [], ()))
noncomputable def g50 (x0 x1 x2 : Int) : Option (List Int × Unit) := gd (pre88 (62 : Nat) x0 x1 x2 ([] : List Int)) (some ((seaF (rightF x0 x1) x1 (62 : Nat) x2 ([] : List Int) ([] : List Int), ()) : List Int × Unit))
noncomputable def g50_sh : List LSh := ([] : List LSh)
def seaN (k n frm : Int) : List Int := seaF (rightF k n) n 62 frm [] []
noncomputable def con49 : Con := mkC 49 [.d I64] [I64] (fun (n : Int) => [1 ≤ n ∧ n ≤ 24]) (fun (n : Int) => (((seaN 2 (n + 1) 1).length : Int), ()))
noncomputable def g49 (x0 : Int) : Option (Int × Unit) := gd (pre88 (62 : Nat) (2 : Int) (wr IntKind.i64 (x0 + (1 : Int))) (1 : Int) ([] : List Int)) (some (((↑(List.length (seaF (rightF (2 : Int) (wr IntKind.i64 (x0 + (1 : Int)))) (wr IntKind.i64 (x0 + (1 : Int))) (62 : Nat) (1 : Int) ([] : List Int) ([] : List Int))) : Int), ()) : Int × Unit))
noncomputable def g49_sh : List LSh := ([] : List LSh)
noncomputable def con12 : Con := mkC 12 [.d I64] [.bool] (fun (n : Int) => []) (fun (n : Int) => (true, ()))
noncomputable def g12_c0 (x0 : Int) : Bool := bif !ieq (longX x0).1 (↑(List.length (seaN (2 : Int) (x0 + (1 : Int)) (1 : Int))) : Int) then true else !ieq (longX x0).2.1 (0 : Int)
noncomputable def g12_c1 (x0 : Int) : Bool := bif bif ieq (wr IntKind.i64 ((↑(List.length (mostX x0).1) : Int) + (↑(List.length (wideX x0).1) : Int))) (0 : Int) then ieq (mostX x0).2.1 (2 : Int) else false then ieq (wideX x0).2.1 (2 : Int) else false
noncomputable def g12_c2 (x0 : Int) : Bool := bif eqLf ieq (mostX x0).1 (seaF (rightF (0 : Int) x0) x0 (62 : Nat) (0 : Int) ([] : List Int) ([] : List Int)) then eqLf ieq (wideX x0).1 (seaF (rightF (1 : Int) x0) x0 (62 : Nat) (0 : Int) ([] : List Int) ([] : List Int)) else false
noncomputable def g12 (x0 : Int) : Option (Bool × Unit) := gd (ile (1 : Int) x0 = true → ile (1 : Int) x0 = true) (gd (ile (1 : Int) x0 = true → ile (1 : Int) x0 = true) (bif bif ile (1 : Int) x0 then ile x0 (3 : Int) else false then gd ((1 : Int) ≤ x0 ∧ x0 ≤ (3 : Int)) (gd (small (grtX x0).1) (gd (small (optL (groF x0 (capN x0) (22 : Nat) (0 : Int) ([] : List Int)))) (gd ((!!eqLf ieq (grtX x0).1 (optL (groF x0 (capN x0) (22 : Nat) (0 : Int) ([] : List Int)))) = true → (!!eqLf ieq (grtX x0).1 (optL (groF x0 (capN x0) (22 : Nat) (0 : Int) ([] : List Int)))) = true) (gd ((!eqLf ieq (grtX x0).1 (optL (groF x0 (capN x0) (22 : Nat) (0 : Int) ([] : List Int)))) = false → (!!eqLf ieq (grtX x0).1 (optL (groF x0 (capN x0) (22 : Nat) (0 : Int) ([] : List Int)))) = true) (bif bif !eqLf ieq (grtX x0).1 (optL (groF x0 (capN x0) (22 : Nat) (0 : Int) ([] : List Int))) then true else !ieq (grtX x0).2.1 (0 : Int) then some ((false, ()) : Bool × Unit) else gd (ile (1 : Int) x0 = true → ile (1 : Int) x0 = true) (gd (ile (1 : Int) x0 = true → ile (1 : Int) x0 = true) (bif bif ile (1 : Int) x0 then ile x0 (24 : Int) else false then gd ((1 : Int) ≤ x0 ∧ x0 ≤ (24 : Int)) (gd ((!!ieq (longX x0).1 (↑(List.length (seaN (2 : Int) (x0 + (1 : Int)) (1 : Int))) : Int)) = true → (!!ieq (longX x0).1 (↑(List.length (seaN (2 : Int) (x0 + (1 : Int)) (1 : Int))) : Int)) = true) (gd ((!ieq (longX x0).1 (↑(List.length (seaN (2 : Int) (x0 + (1 : Int)) (1 : Int))) : Int)) = false → (!!ieq (longX x0).1 (↑(List.length (seaN (2 : Int) (x0 + (1 : Int)) (1 : Int))) : Int)) = true) (bif g12_c0 x0 then some ((false, ()) : Bool × Unit) else gd ((!ilt x0 (2 : Int)) = true → (!ilt x0 (2 : Int)) = true) (gd (ilt x0 (2 : Int) = false → (!ilt x0 (2 : Int)) = true) (bif bif ilt x0 (2 : Int) then true else ilt (25 : Int) x0 then gd (ieq (wr IntKind.i64 ((↑(List.length (mostX x0).1) : Int) + (↑(List.length (wideX x0).1) : Int))) (0 : Int) = true → ieq (wr IntKind.i64 ((↑(List.length (mostX x0).1) : Int) + (↑(List.length (wideX x0).1) : Int))) (0 : Int) = true) (gd (ieq (wr IntKind.i64 ((↑(List.length (mostX x0).1) : Int) + (↑(List.length (wideX x0).1) : Int))) (0 : Int) = true → ieq (wr IntKind.i64 ((↑(List.length (mostX x0).1) : Int) + (↑(List.length (wideX x0).1) : Int))) (0 : Int) = true) (gd ((bif ieq (wr IntKind.i64 ((↑(List.length (mostX x0).1) : Int) + (↑(List.length (wideX x0).1) : Int))) (0 : Int) then ieq (mostX x0).2.1 (2 : Int) else false) = true → (bif ieq (wr IntKind.i64 ((↑(List.length (mostX x0).1) : Int) + (↑(List.length (wideX x0).1) : Int))) (0 : Int) then ieq (mostX x0).2.1 (2 : Int) else false) = true) (gd ((bif ieq (wr IntKind.i64 ((↑(List.length (mostX x0).1) : Int) + (↑(List.length (wideX x0).1) : Int))) (0 : Int) then ieq (mostX x0).2.1 (2 : Int) else false) = true → (bif ieq (wr IntKind.i64 ((↑(List.length (mostX x0).1) : Int) + (↑(List.length (wideX x0).1) : Int))) (0 : Int) then ieq (mostX x0).2.1 (2 : Int) else false) = true) (gd (g12_c1 x0 = true → g12_c1 x0 = true) (some ((bif g12_c1 x0 then true else false, ()) : Bool × Unit)))))) else gd (pre88 (62 : Nat) (0 : Int) x0 (0 : Int) ([] : List Int)) (gd (small (mostX x0).1) (gd (small (seaF (rightF (0 : Int) x0) x0 (62 : Nat) (0 : Int) ([] : List Int) ([] : List Int))) (gd (eqLf ieq (mostX x0).1 (seaF (rightF (0 : Int) x0) x0 (62 : Nat) (0 : Int) ([] : List Int) ([] : List Int)) = true → eqLf ieq (mostX x0).1 (seaF (rightF (0 : Int) x0) x0 (62 : Nat) (0 : Int) ([] : List Int) ([] : List Int)) = true ∧ pre88 (62 : Nat) (1 : Int) x0 (0 : Int) ([] : List Int)) (gd (eqLf ieq (mostX x0).1 (seaF (rightF (0 : Int) x0) x0 (62 : Nat) (0 : Int) ([] : List Int) ([] : List Int)) = true → eqLf ieq (mostX x0).1 (seaF (rightF (0 : Int) x0) x0 (62 : Nat) (0 : Int) ([] : List Int) ([] : List Int)) = true ∧ eqLf ieq (mostX x0).1 (seaF (rightF (0 : Int) x0) x0 (62 : Nat) (0 : Int) ([] : List Int) ([] : List Int)) = true ∧ small (wideX x0).1 ∧ small (seaF (rightF (1 : Int) x0) x0 (62 : Nat) (0 : Int) ([] : List Int) ([] : List Int))) (gd (eqLf ieq (mostX x0).1 (seaF (rightF (0 : Int) x0) x0 (62 : Nat) (0 : Int) ([] : List Int) ([] : List Int)) = true → eqLf ieq (mostX x0).1 (seaF (rightF (0 : Int) x0) x0 (62 : Nat) (0 : Int) ([] : List Int) ([] : List Int)) = true) (gd (g12_c2 x0 = true → g12_c2 x0 = true) (gd (g12_c2 x0 = true → g12_c2 x0 = true) (gd ((bif g12_c2 x0 then ieq (mostX x0).2.1 (0 : Int) else false) = true → (bif g12_c2 x0 then ieq (mostX x0).2.1 (0 : Int) else false) = true) (gd ((bif g12_c2 x0 then ieq (mostX x0).2.1 (0 : Int) else false) = true → (bif g12_c2 x0 then ieq (mostX x0).2.1 (0 : Int) else false) = true) (gd ((bif bif g12_c2 x0 then ieq (mostX x0).2.1 (0 : Int) else false then ieq (wideX x0).2.1 (0 : Int) else false) = true → (bif bif g12_c2 x0 then ieq (mostX x0).2.1 (0 : Int) else false then ieq (wideX x0).2.1 (0 : Int) else false) = true) (some ((bif bif bif g12_c2 x0 then ieq (mostX x0).2.1 (0 : Int) else false then ieq (wideX x0).2.1 (0 : Int) else false then true else false, ()) : Bool × Unit))))))))))))))))) else gd ((!!ieq (longX x0).1 (0 : Int)) = true → (!!ieq (longX x0).1 (0 : Int)) = true) (gd ((!ieq (longX x0).1 (0 : Int)) = false → (!!ieq (longX x0).1 (0 : Int)) = true) (bif bif !ieq (longX x0).1 (0 : Int) then true else !ieq (longX x0).2.1 (2 : Int) then some ((false, ()) : Bool × Unit) else gd ((!ilt x0 (2 : Int)) = true → (!ilt x0 (2 : Int)) = true) (gd (ilt x0 (2 : Int) = false → (!ilt x0 (2 : Int)) = true) (bif bif ilt x0 (2 : Int) then true else ilt (25 : Int) x0 then gd (ieq (wr IntKind.i64 ((↑(List.length (mostX x0).1) : Int) + (↑(List.length (wideX x0).1) : Int))) (0 : Int) = true → ieq (wr IntKind.i64 ((↑(List.length (mostX x0).1) : Int) + (↑(List.length (wideX x0).1) : Int))) (0 : Int) = true) (gd (ieq (wr IntKind.i64 ((↑(List.length (mostX x0).1) : Int) + (↑(List.length (wideX x0).1) : Int))) (0 : Int) = true → ieq (wr IntKind.i64 ((↑(List.length (mostX x0).1) : Int) + (↑(List.length (wideX x0).1) : Int))) (0 : Int) = true) (gd ((bif ieq (wr IntKind.i64 ((↑(List.length (mostX x0).1) : Int) + (↑(List.length (wideX x0).1) : Int))) (0 : Int) then ieq (mostX x0).2.1 (2 : Int) else false) = true → (bif ieq (wr IntKind.i64 ((↑(List.length (mostX x0).1) : Int) + (↑(List.length (wideX x0).1) : Int))) (0 : Int) then ieq (mostX x0).2.1 (2 : Int) else false) = true) (gd ((bif ieq (wr IntKind.i64 ((↑(List.length (mostX x0).1) : Int) + (↑(List.length (wideX x0).1) : Int))) (0 : Int) then ieq (mostX x0).2.1 (2 : Int) else false) = true → (bif ieq (wr IntKind.i64 ((↑(List.length (mostX x0).1) : Int) + (↑(List.length (wideX x0).1) : Int))) (0 : Int) then ieq (mostX x0).2.1 (2 : Int) else false) = true) (gd (g12_c1 x0 = true → g12_c1 x0 = true) (some ((bif g12_c1 x0 then true else false, ()) : Bool × Unit)))))) else gd (pre88 (62 : Nat) (0 : Int) x0 (0 : Int) ([] : List Int)) (gd (small (mostX x0).1) (gd (small (seaF (rightF (0 : Int) x0) x0 (62 : Nat) (0 : Int) ([] : List Int) ([] : List Int))) (gd (eqLf ieq (mostX x0).1 (seaF (rightF (0 : Int) x0) x0 (62 : Nat) (0 : Int) ([] : List Int) ([] : List Int)) = true → eqLf ieq (mostX x0).1 (seaF (rightF (0 : Int) x0) x0 (62 : Nat) (0 : Int) ([] : List Int) ([] : List Int)) = true ∧ pre88 (62 : Nat) (1 : Int) x0 (0 : Int) ([] : List Int)) (gd (eqLf ieq (mostX x0).1 (seaF (rightF (0 : Int) x0) x0 (62 : Nat) (0 : Int) ([] : List Int) ([] : List Int)) = true → eqLf ieq (mostX x0).1 (seaF (rightF (0 : Int) x0) x0 (62 : Nat) (0 : Int) ([] : List Int) ([] : List Int)) = true ∧ eqLf ieq (mostX x0).1 (seaF (rightF (0 : Int) x0) x0 (62 : Nat) (0 : Int) ([] : List Int) ([] : List Int)) = true ∧ small (wideX x0).1 ∧ small (seaF (rightF (1 : Int) x0) x0 (62 : Nat) (0 : Int) ([] : List Int) ([] : List Int))) (gd (eqLf ieq (mostX x0).1 (seaF (rightF (0 : Int) x0) x0 (62 : Nat) (0 : Int) ([] : List Int) ([] : List Int)) = true → eqLf ieq (mostX x0).1 (seaF (rightF (0 : Int) x0) x0 (62 : Nat) (0 : Int) ([] : List Int) ([] : List Int)) = true) (gd (g12_c2 x0 = true → g12_c2 x0 = true) (gd (g12_c2 x0 = true → g12_c2 x0 = true) (gd ((bif g12_c2 x0 then ieq (mostX x0).2.1 (0 : Int) else false) = true → (bif g12_c2 x0 then ieq (mostX x0).2.1 (0 : Int) else false) = true) (gd ((bif g12_c2 x0 then ieq (mostX x0).2.1 (0 : Int) else false) = true → (bif g12_c2 x0 then ieq (mostX x0).2.1 (0 : Int) else false) = true) (gd ((bif bif g12_c2 x0 then ieq (mostX x0).2.1 (0 : Int) else false then ieq (wideX x0).2.1 (0 : Int) else false) = true → (bif bif g12_c2 x0 then ieq (mostX x0).2.1 (0 : Int) else false then ieq (wideX x0).2.1 (0 : Int) else false) = true) (some ((bif bif bif g12_c2 x0 then ieq (mostX x0).2.1 (0 : Int) else false then ieq (wideX x0).2.1 (0 : Int) else false then true else false, ()) : Bool × Unit))))))))))))))))))))))) else gd ((!!ieq (↑(List.length (grtX x0).1) : Int) (0 : Int)) = true → (!!ieq (↑(List.length (grtX x0).1) : Int) (0 : Int)) = true) (gd ((!ieq (↑(List.length (grtX x0).1) : Int) (0 : Int)) = false → (!!ieq (↑(List.length (grtX x0).1) : Int) (0 : Int)) = true) (bif bif !ieq (↑(List.length (grtX x0).1) : Int) (0 : Int) then true else !ieq (grtX x0).2.1 (2 : Int) then some ((false, ()) : Bool × Unit) else gd (ile (1 : Int) x0 = true → ile (1 : Int) x0 = true) (gd (ile (1 : Int) x0 = true → ile (1 : Int) x0 = true) (bif bif ile (1 : Int) x0 then ile x0 (24 : Int) else false then gd ((1 : Int) ≤ x0 ∧ x0 ≤ (24 : Int)) (gd ((!!ieq (longX x0).1 (↑(List.length (seaN (2 : Int) (x0 + (1 : Int)) (1 : Int))) : Int)) = true → (!!ieq (longX x0).1 (↑(List.length (seaN (2 : Int) (x0 + (1 : Int)) (1 : Int))) : Int)) = true) (gd ((!ieq (longX x0).1 (↑(List.length (seaN (2 : Int) (x0 + (1 : Int)) (1 : Int))) : Int)) = false → (!!ieq (longX x0).1 (↑(List.length (seaN (2 : Int) (x0 + (1 : Int)) (1 : Int))) : Int)) = true) (bif g12_c0 x0 then some ((false, ()) : Bool × Unit) else gd ((!ilt x0 (2 : Int)) = true → (!ilt x0 (2 : Int)) = true) (gd (ilt x0 (2 : Int) = false → (!ilt x0 (2 : Int)) = true) (bif bif ilt x0 (2 : Int) then true else ilt (25 : Int) x0 then gd (ieq (wr IntKind.i64 ((↑(List.length (mostX x0).1) : Int) + (↑(List.length (wideX x0).1) : Int))) (0 : Int) = true → ieq (wr IntKind.i64 ((↑(List.length (mostX x0).1) : Int) + (↑(List.length (wideX x0).1) : Int))) (0 : Int) = true) (gd (ieq (wr IntKind.i64 ((↑(List.length (mostX x0).1) : Int) + (↑(List.length (wideX x0).1) : Int))) (0 : Int) = true → ieq (wr IntKind.i64 ((↑(List.length (mostX x0).1) : Int) + (↑(List.length (wideX x0).1) : Int))) (0 : Int) = true) (gd ((bif ieq (wr IntKind.i64 ((↑(List.length (mostX x0).1) : Int) + (↑(List.length (wideX x0).1) : Int))) (0 : Int) then ieq (mostX x0).2.1 (2 : Int) else false) = true → (bif ieq (wr IntKind.i64 ((↑(List.length (mostX x0).1) : Int) + (↑(List.length (wideX x0).1) : Int))) (0 : Int) then ieq (mostX x0).2.1 (2 : Int) else false) = true) (gd ((bif ieq (wr IntKind.i64 ((↑(List.length (mostX x0).1) : Int) + (↑(List.length (wideX x0).1) : Int))) (0 : Int) then ieq (mostX x0).2.1 (2 : Int) else false) = true → (bif ieq (wr IntKind.i64 ((↑(List.length (mostX x0).1) : Int) + (↑(List.length (wideX x0).1) : Int))) (0 : Int) then ieq (mostX x0).2.1 (2 : Int) else false) = true) (gd (g12_c1 x0 = true → g12_c1 x0 = true) (some ((bif g12_c1 x0 then true else false, ()) : Bool × Unit)))))) else gd (pre88 (62 : Nat) (0 : Int) x0 (0 : Int) ([] : List Int)) (gd (small (mostX x0).1) (gd (small (seaF (rightF (0 : Int) x0) x0 (62 : Nat) (0 : Int) ([] : List Int) ([] : List Int))) (gd (eqLf ieq (mostX x0).1 (seaF (rightF (0 : Int) x0) x0 (62 : Nat) (0 : Int) ([] : List Int) ([] : List Int)) = true → eqLf ieq (mostX x0).1 (seaF (rightF (0 : Int) x0) x0 (62 : Nat) (0 : Int) ([] : List Int) ([] : List Int)) = true ∧ pre88 (62 : Nat) (1 : Int) x0 (0 : Int) ([] : List Int)) (gd (eqLf ieq (mostX x0).1 (seaF (rightF (0 : Int) x0) x0 (62 : Nat) (0 : Int) ([] : List Int) ([] : List Int)) = true → eqLf ieq (mostX x0).1 (seaF (rightF (0 : Int) x0) x0 (62 : Nat) (0 : Int) ([] : List Int) ([] : List Int)) = true ∧ eqLf ieq (mostX x0).1 (seaF (rightF (0 : Int) x0) x0 (62 : Nat) (0 : Int) ([] : List Int) ([] : List Int)) = true ∧ small (wideX x0).1 ∧ small (seaF (rightF (1 : Int) x0) x0 (62 : Nat) (0 : Int) ([] : List Int) ([] : List Int))) (gd (eqLf ieq (mostX x0).1 (seaF (rightF (0 : Int) x0) x0 (62 : Nat) (0 : Int) ([] : List Int) ([] : List Int)) = true → eqLf ieq (mostX x0).1 (seaF (rightF (0 : Int) x0) x0 (62 : Nat) (0 : Int) ([] : List Int) ([] : List Int)) = true) (gd (g12_c2 x0 = true → g12_c2 x0 = true) (gd (g12_c2 x0 = true → g12_c2 x0 = true) (gd ((bif g12_c2 x0 then ieq (mostX x0).2.1 (0 : Int) else false) = true → (bif g12_c2 x0 then ieq (mostX x0).2.1 (0 : Int) else false) = true) (gd ((bif g12_c2 x0 then ieq (mostX x0).2.1 (0 : Int) else false) = true → (bif g12_c2 x0 then ieq (mostX x0).2.1 (0 : Int) else false) = true) (gd ((bif bif g12_c2 x0 then ieq (mostX x0).2.1 (0 : Int) else false then ieq (wideX x0).2.1 (0 : Int) else false) = true → (bif bif g12_c2 x0 then ieq (mostX x0).2.1 (0 : Int) else false then ieq (wideX x0).2.1 (0 : Int) else false) = true) (some ((bif bif bif g12_c2 x0 then ieq (mostX x0).2.1 (0 : Int) else false then ieq (wideX x0).2.1 (0 : Int) else false then true else false, ()) : Bool × Unit))))))))))))))))) else gd ((!!ieq (longX x0).1 (0 : Int)) = true → (!!ieq (longX x0).1 (0 : Int)) = true) (gd ((!ieq (longX x0).1 (0 : Int)) = false → (!!ieq (longX x0).1 (0 : Int)) = true) (bif bif !ieq (longX x0).1 (0 : Int) then true else !ieq (longX x0).2.1 (2 : Int) then some ((false, ()) : Bool × Unit) else gd ((!ilt x0 (2 : Int)) = true → (!ilt x0 (2 : Int)) = true) (gd (ilt x0 (2 : Int) = false → (!ilt x0 (2 : Int)) = true) (bif bif ilt x0 (2 : Int) then true else ilt (25 : Int) x0 then gd (ieq (wr IntKind.i64 ((↑(List.length (mostX x0).1) : Int) + (↑(List.length (wideX x0).1) : Int))) (0 : Int) = true → ieq (wr IntKind.i64 ((↑(List.length (mostX x0).1) : Int) + (↑(List.length (wideX x0).1) : Int))) (0 : Int) = true) (gd (ieq (wr IntKind.i64 ((↑(List.length (mostX x0).1) : Int) + (↑(List.length (wideX x0).1) : Int))) (0 : Int) = true → ieq (wr IntKind.i64 ((↑(List.length (mostX x0).1) : Int) + (↑(List.length (wideX x0).1) : Int))) (0 : Int) = true) (gd ((bif ieq (wr IntKind.i64 ((↑(List.length (mostX x0).1) : Int) + (↑(List.length (wideX x0).1) : Int))) (0 : Int) then ieq (mostX x0).2.1 (2 : Int) else false) = true → (bif ieq (wr IntKind.i64 ((↑(List.length (mostX x0).1) : Int) + (↑(List.length (wideX x0).1) : Int))) (0 : Int) then ieq (mostX x0).2.1 (2 : Int) else false) = true) (gd ((bif ieq (wr IntKind.i64 ((↑(List.length (mostX x0).1) : Int) + (↑(List.length (wideX x0).1) : Int))) (0 : Int) then ieq (mostX x0).2.1 (2 : Int) else false) = true → (bif ieq (wr IntKind.i64 ((↑(List.length (mostX x0).1) : Int) + (↑(List.length (wideX x0).1) : Int))) (0 : Int) then ieq (mostX x0).2.1 (2 : Int) else false) = true) (gd (g12_c1 x0 = true → g12_c1 x0 = true) (some ((bif g12_c1 x0 then true else false, ()) : Bool × Unit)))))) else gd (pre88 (62 : Nat) (0 : Int) x0 (0 : Int) ([] : List Int)) (gd (small (mostX x0).1) (gd (small (seaF (rightF (0 : Int) x0) x0 (62 : Nat) (0 : Int) ([] : List Int) ([] : List Int))) (gd (eqLf ieq (mostX x0).1 (seaF (rightF (0 : Int) x0) x0 (62 : Nat) (0 : Int) ([] : List Int) ([] : List Int)) = true → eqLf ieq (mostX x0).1 (seaF (rightF (0 : Int) x0) x0 (62 : Nat) (0 : Int) ([] : List Int) ([] : List Int)) = true ∧ pre88 (62 : Nat) (1 : Int) x0 (0 : Int) ([] : List Int)) (gd (eqLf ieq (mostX x0).1 (seaF (rightF (0 : Int) x0) x0 (62 : Nat) (0 : Int) ([] : List Int) ([] : List Int)) = true → eqLf ieq (mostX x0).1 (seaF (rightF (0 : Int) x0) x0 (62 : Nat) (0 : Int) ([] : List Int) ([] : List Int)) = true ∧ eqLf ieq (mostX x0).1 (seaF (rightF (0 : Int) x0) x0 (62 : Nat) (0 : Int) ([] : List Int) ([] : List Int)) = true ∧ small (wideX x0).1 ∧ small (seaF (rightF (1 : Int) x0) x0 (62 : Nat) (0 : Int) ([] : List Int) ([] : List Int))) (gd (eqLf ieq (mostX x0).1 (seaF (rightF (0 : Int) x0) x0 (62 : Nat) (0 : Int) ([] : List Int) ([] : List Int)) = true → eqLf ieq (mostX x0).1 (seaF (rightF (0 : Int) x0) x0 (62 : Nat) (0 : Int) ([] : List Int) ([] : List Int)) = true) (gd (g12_c2 x0 = true → g12_c2 x0 = true) (gd (g12_c2 x0 = true → g12_c2 x0 = true) (gd ((bif g12_c2 x0 then ieq (mostX x0).2.1 (0 : Int) else false) = true → (bif g12_c2 x0 then ieq (mostX x0).2.1 (0 : Int) else false) = true) (gd ((bif g12_c2 x0 then ieq (mostX x0).2.1 (0 : Int) else false) = true → (bif g12_c2 x0 then ieq (mostX x0).2.1 (0 : Int) else false) = true) (gd ((bif bif g12_c2 x0 then ieq (mostX x0).2.1 (0 : Int) else false then ieq (wideX x0).2.1 (0 : Int) else false) = true → (bif bif g12_c2 x0 then ieq (mostX x0).2.1 (0 : Int) else false then ieq (wideX x0).2.1 (0 : Int) else false) = true) (some ((bif bif bif g12_c2 x0 then ieq (mostX x0).2.1 (0 : Int) else false then ieq (wideX x0).2.1 (0 : Int) else false then true else false, ()) : Bool × Unit))))))))))))))))))))))
noncomputable def g12_sh : List LSh := ([] : List LSh)


end Go.Caps

set_option linter.unusedVariables false
set_option linter.unusedSimpArgs false
namespace Go.Caps
open Go Go.Ab Go.Proofs

theorem goal83 : con83.goal Try.prog (spOf [con67, con53]) g83_sh [] lm30 := by
  have e : (∀ (k : DeckD) (l : List Int) (x : Int), dkOk k → cdOk k.1 l → g83 k l x = some (mayD k.1 l x, ())) = con83.goal Try.prog (spOf [con67, con53]) g83_sh [] lm30 := by kernel_rfl
  rw [← e]
  rintro k l x ⟨h1, h2⟩ ⟨h3, h4⟩
  have hs : small (freeF k.1 l) := by have := free_len (d := k.1) (l := l); unfold small; omega
  unfold g83 mayD
  rw [gd_pos (Nat.le_refl _), gd_pos h1, gd_pos h2]
  refine (gd_pos h3).trans ?_
  rw [gd_pos h4, gd_pos hs]
set_option maxRecDepth 100000 in
theorem ok83 : con83.Ok Try.prog := Con.of_goal mixed (okC ok67 (okC ok53 okN)) con83 goal83
theorem size_pos {d : Int} (h : isD d = true) : 3 ≤ sizeF d := by
  rcases isD_cases h with rfl | rfl | rfl | rfl <;> decide
theorem cd_of {d frm : Int} {l : List Int} (h : risTo frm l) (hf : frm ≤ sizeF d) : cdOk d l := by
  obtain ⟨h1, h2⟩ := h
  have hs := size_le (d := d)
  refine ⟨fun x hx => inC_iff.2 (by have := h2 x hx; omega), ?_⟩
  rcases l with _ | ⟨y, l⟩
  · simp
  · have hy := h2 y (List.mem_cons_self ..)
    have := ris_short (n := sizeF d - 1) (by omega) h1 (fun x hx => by have := h2 x hx; omega)
    omega

theorem ok99d_0 : (con99d 0).Ok Try.prog := scon_false _ (by kernel_rfl) (by
  have e : (∀ (frm len size n : Int) (k : DeckD) (a : List Int) (p : List Prop), some [pre99 0 frm len n size a, dOk n k] = some p → ¬ allP p) = (allD ((con99d 0).ins.flatMap TV.ts ++ tsB (con99d 0).ibl) fun env => ∀ p, (con99d 0).pre env = some p → ¬ allP p) := by kernel_rfl
  rw [← e]
  intro frm len size n k a p hp hq
  cases hp
  have := (allP_cons.1 hq).1
  unfold pre99 at this
  omega)
theorem goal99d (f : Nat) : (con99d (f + 1)).goal Try.prog (spS [con99d f] [con83]) g99d_sh [] lm30 := by
  have e : (∀ (frm len size n : Int) (k : DeckD) (a : List Int), pre99 (f + 1) frm len n size a → dOk n k → g99d f frm len size n k a = some ((growF (mayD k.1) n size (f + 1) frm len a).1, (growF (mayD k.1) n size (f + 1) frm len a).2.1, size, n, k, (growF (mayD k.1) n size (f + 1) frm len a).2.2.1, ())) = (con99d (f + 1)).goal Try.prog (spS [con99d f] [con83]) g99d_sh [] lm30 := by kernel_rfl
  rw [← e]
  intro frm len size n k a hp hq
  have hp0 := hp
  obtain ⟨h0, hls, hs60, hn0, hn, hf0, hfu, ha, hr⟩ := hp
  skip
  have hlen : ((len.toNat : Nat) : Int) = len := by omega
  unfold g99d
  rw [hlen]
  by_cases hk : len = size
  · rw [cond_t (by rw [ieq_d]; simpa using hk)]
    simp only [growF, if_pos hk]
  · rw [cond_f (by rw [ieq_d]; simpa using hk)]
    simp only [growF, if_neg hk]
    have hl : (a.take len.toNat).length = len.toNat := by rw [List.length_take]; omega
    have hX : ∀ x : Int, (a.take len.toNat ++ [x]).length = len.toNat + 1 := fun x => by simp only [List.length_append, hl, List.length_singleton]
    have hG := fun x : Int => growF_ok (may := (mayD k.1)) (n := n) (size := size) f (x + 1) (len + 1) (a.take len.toNat ++ [x]) (by omega) (by rw [hX x]; omega)
    have ht : ∀ x : Int, (a.take len.toNat ++ [x]).take (len + 1).toNat = a.take len.toNat ++ [x] := fun x => List.take_of_length_le (by rw [hX x]; omega)
    simp only [ht] at hG
    have hpn := fun (x : Int) (hx : frm ≤ x) => pre_next hp0 hk hx
    have hw1 : ((len.toNat + 1 : Nat) : Int) = len + 1 := by omega
    have hw2 : wr .i64 (len + 1 - 1) = len := by rw [wr_id (by omega)]; omega
    have hw3 : wr .i64 (n - wr .i64 (size - len)) = n - (size - len) := by rw [wr_id (n := size - len) (by omega), wr_id (by omega)]
    have c2 : (((len.toNat + 1) * 8 ≤ 1099511627776) = True) := by simp; omega
    have hnone : ∀ x : Int, (growF (mayD k.1) n size f (x + 1) (len + 1) (a.take len.toNat ++ [x])).1 = false → dfsF (mayD k.1) n size f (x + 1) (a.take len.toNat ++ [x]) = none := fun x hr => by
      have := (hG x).1
      rw [hr] at this
      simpa using this.symm
    have hP : ∀ x, frm ≤ x → x < n - (size - len) + 1 → cdOk k.1 (a.take len.toNat) := fun x hx1 hx2 => cd_of hr (by have := hq.2; omega)
    refine tryF_loop (C := n - (size - len) + 1) (frm := frm) (st := fun x a => ((x, len, size, n, k, a, ()) : Int × Int × Int × Int × DeckD × List Int × Unit)) (out := fun s => (s.1, s.2.1, size, n, k, s.2.2.1, ())) hl ?_ ?_ ?_ ?_ ?_ _ frm a rfl (Int.le_refl _) rfl
    · intro x b hx1 hx2 hb hm
      have c1 : ile x (n - (size - len)) = true := by rw [ile_d]; simp only [decide_eq_true_eq]; omega
      have cb : len.toNat ≤ b.length := by rw [← hl, ← hb, List.length_take]; omega
      have hI : True := trivial
      have hw : wr .i64 (x + 1) = x + 1 := wr_id (by omega)
      simp only [hlen, hw3, c1, cond_true, Nat.zero_add, gd_pos cb, List.drop_zero, gd_pos hq.1, hb, gd_pos (hP x hx1 hx2), hm, cond_false, hw]
    · intro x b hx1 hx2 hb hm hgr
      have c1 : ile x (n - (size - len)) = true := by rw [ile_d]; simp only [decide_eq_true_eq]; omega
      have cb : len.toNat ≤ b.length := by rw [← hl, ← hb, List.length_take]; omega
      have hI : True := trivial
      have hw : wr .i64 (x + 1) = x + 1 := wr_id (by omega)
      have hpos : ((((growF (mayD k.1) n size f (x + 1) (len + 1) (a.take len.toNat ++ [x])).2.1).toNat : Nat) : Int) = (growF (mayD k.1) n size f (x + 1) (len + 1) (a.take len.toNat ++ [x])).2.1 := by rw [(hG x).2.1]; simp
      simp only [hlen, hw3, c1, cond_true, Nat.zero_add, gd_pos cb, List.drop_zero, gd_pos hq.1, hb, gd_pos (hP x hx1 hx2), hm, hw, c2, gd_true, hw1, gd_pos (hpn x hx1), gd_pos hq, hgr, hpos]
    · intro x b hx1 hx2 hb hm hgr
      have c1 : ile x (n - (size - len)) = true := by rw [ile_d]; simp only [decide_eq_true_eq]; omega
      have cb : len.toNat ≤ b.length := by rw [← hl, ← hb, List.length_take]; omega
      have hI : True := trivial
      have hw : wr .i64 (x + 1) = x + 1 := wr_id (by omega)
      have h21 : (growF (mayD k.1) n size f (x + 1) (len + 1) (a.take len.toNat ++ [x])).2.1 = len + 1 := by
        have := (hG x).2.1
        rw [hnone x hgr, Option.getD_none, hX] at this
        rw [this]; omega
      have h22 : (len + 1).toNat = len.toNat + 1 := by omega
      simp only [hlen, hw3, c1, cond_true, Nat.zero_add, gd_pos cb, List.drop_zero, gd_pos hq.1, hb, gd_pos (hP x hx1 hx2), hm, hw, c2, gd_true, hw1, gd_pos (hpn x hx1), gd_pos hq, hgr, h21, h22, hw2, cond_false]
      rw [gd_pos (by omega)]
    · intro x b hx hb
      have c1 : ile x (n - (size - len)) = false := by rw [ile_d]; simp only [decide_eq_false_iff_not]; omega
      simp only [hlen, hw3, c1, cond_false]
    · intro x hx1 hx2 hgr
      have h3 := (hG x).2.2
      rw [hnone x hgr, Option.getD_none, hX] at h3
      have := congrArg (List.take len.toNat) h3
      rw [List.take_take, Nat.min_eq_left (by omega), List.take_append_of_le_length (by omega), List.take_take, Nat.min_self] at this
      exact this
set_option maxRecDepth 100000 in
theorem ok99d : ∀ f, (con99d f).Ok Try.prog
  | 0 => ok99d_0
  | f + 1 => SCon.of_goal mixed (okC ok83 okN) (okS (ok99d f) okS0) (con99d (f + 1)) (goal99d f)


theorem goal77d : con77d.goal Try.prog (spS [con99d 62] [con83]) g77d_sh [9] lm30 := by
  have e : (∀ (n size : Int) (k : DeckD), (1 ≤ size ∧ size ≤ 60) → dOk n k → g77d n size k = some (!(srD k.1 n size).1, bif (srD k.1 n size).1 then foundL (srD k.1 n size) else [], ())) = con77d.goal Try.prog (spS [con99d 62] [con83]) g77d_sh [9] lm30 := by kernel_rfl
  rw [← e]
  rintro n size k ⟨h1, h2⟩ hq
  have hn : 0 ≤ n ∧ n ≤ 100 := by have := hq.2; have := size_le (d := k.1); have := size_pos hq.1.1; omega
  have hp : pre99 62 0 0 n size [] := ⟨by omega, by omega, by omega, by omega, by omega, by omega, by omega, by simp, rfl, fun x hx => nomatch hx⟩
  unfold g77d srD
  cases hd : dfsF (mayD k.1) n size 62 0 [] with
  | none => simp [sr_none hd, gd_true, gd_pos hp, gd_pos hq]
  | some r =>
    obtain ⟨s1, s2, s3, s4⟩ := sr_some hd
    have hl := dfs_len _ _ _ _ hd
    have e2 : ∀ s : Srch, foundL s = s.2.2.1.take s.2.1.toNat := fun _ => rfl
    simp only [s1, Bool.not_true, cond_false, cond_true, Nat.zero_add, List.drop_zero, e2, gd_pos hp, gd_pos hq]
    rw [gd_pos (by omega), gd_pos (by rw [List.length_take]; omega)]
set_option maxRecDepth 100000 in
theorem ok77d : con77d.Ok Try.prog := SCon.of_goal mixed (okC ok83 okN) (okS (ok99d 62) okS0) con77d goal77d



theorem cap_at {d : Int} (h1 : 1 ≤ d) (h3 : d ≤ 3) : (@id Int (arrGet (4 : Nat) (Ty.int .i64) ((((0 : Int), (2 : Int), (4 : Int), (9 : Int), ()) : Int × Int × Int × Int × Unit)) (Int.toNat d))) = capN d := by
  have : d = 1 ∨ d = 2 ∨ d = 3 := by omega
  rcases this with rfl | rfl | rfl <;> rfl
theorem cap_le {d : Int} : 2 ≤ capN d ∧ capN d ≤ 9 := by
  unfold capN
  split
  · omega
  · split <;> omega
theorem goal45 : con45.goal Try.prog (spS [con77d] [con56, con83]) g45_sh [] lm30 := by
  have e : (∀ (d : Int), g45 d = some (grtX d)) = con45.goal Try.prog (spS [con77d] [con56, con83]) g45_sh [] lm30 := by kernel_rfl
  rw [← e]
  intro d
  have hs : small ([] : List Int) := by unfold small; simp
  have hc := cap_le (d := d)
  unfold g45 grtX
  rw [gd_pos hs, gd_pos (Nat.le_refl _)]
  by_cases hd : isD d = true
  · obtain ⟨q1, q2⟩ := isD_iff.1 hd
    by_cases h3 : d ≤ 3
    · have hdk : dOk (sizeF d) (d, sizeF d, ()) := ⟨⟨hd, rfl⟩, rfl⟩
      simp [readF, hd, gd_true, cap_at q1 h3, ilt_false.2 h3, q1, h3]
      rw [gd_pos (by omega), gd_pos (by omega), gd_pos hdk]
      cases (srD d (sizeF d) (capN d)).1 <;> rfl
    · simp [readF, hd, gd_true, ilt_iff.2 (show 3 < d by omega), h3]
  · have hd' : ¬ (1 ≤ d ∧ d ≤ 3) := fun h => hd (isD_iff.2 (by omega))
    have hd2 : (decide (1 ≤ d) && decide (d ≤ 3)) = false := by
      rw [Bool.eq_false_iff]; intro h; simp only [Bool.and_eq_true, decide_eq_true_eq] at h; exact hd' h
    simp [readF, hd, gd_true, hd2]
set_option maxRecDepth 100000 in
theorem ok45 : con45.Ok Try.prog := Con.of_goalS mixed (okC ok56 (okC ok83 okN)) (okS ok77d okS0) con45 goal45
end Go.Caps

set_option linter.unusedVariables false
set_option linter.unusedSimpArgs false
namespace Go.Caps
open Go Go.Ab Go.Proofs

theorem goal102 : con102.goal Try.prog (spOf [con41, con43, con44]) g102_sh [] lm30 := by
  have e : (∀ (k n : Int) (l : List Int), rightP k n l → g102 k n l = some (rightF k n l, ())) = con102.goal Try.prog (spOf [con41, con43, con44]) g102_sh [] lm30 := by kernel_rfl
  rw [← e]
  rintro k n l ⟨h1, h2, h3⟩
  unfold g102 rightF
  by_cases k0 : k = 0
  · rw [cond_t (ieq_iff.2 k0), if_pos k0, gd_pos (h3 (.inl k0))]
  · rw [cond_f (ieq_false.2 k0), if_neg k0]
    by_cases k1 : k = 1
    · rw [cond_t (ieq_iff.2 k1), if_pos k1, gd_pos (h3 (.inr k1))]
    · rw [cond_f (ieq_false.2 k1), if_neg k1, gd_pos h1]
      exact gd_pos h2
set_option maxRecDepth 100000 in
theorem ok102 : con102.Ok Try.prog := Con.of_goal mixed (okC ok41 (okC ok43 (okC ok44 okN))) con102 goal102

theorem sea_loop {S X : Type} {step : S → Option (Lp S X)} (st : Int → List Int → S) (out : List Int → X) {g : Int → List Int → List Int → List Int} {good : List Int → Bool} {n frm : Int} {l : List Int}
    (h1 : ∀ x best, frm ≤ x → x < n → (l.length : Int) + n - x ≤ (best.length : Int) → step (st x best) = some (.out (out best)))
    (h2 : ∀ x best, frm ≤ x → x < n → ¬ (l.length : Int) + n - x ≤ (best.length : Int) → good (l ++ [x]) = true → step (st x best) = some (.go (st (x + 1) (g (x + 1) (l ++ [x]) best))))
    (h3 : ∀ x best, frm ≤ x → x < n → ¬ (l.length : Int) + n - x ≤ (best.length : Int) → good (l ++ [x]) = false → step (st x best) = some (.go (st (x + 1) best)))
    (h4 : ∀ x best, n ≤ x → step (st x best) = some (.out (out best))) :
    ∀ (c : Nat) (x : Int) (best : List Int), frm ≤ x → (n - x).toNat = c → whileO step (st x best) = some (out (seaX g good n l c x best))
  | 0, x, best, hx, hc => whileO_out (h4 x best (by omega))
  | c + 1, x, best, hx, hc => by
    have hxn : x < n := by omega
    simp only [seaX]
    by_cases hb : (l.length : Int) + n - x ≤ (best.length : Int)
    · rw [if_pos hb]; exact whileO_out (h1 x best hx hxn hb)
    · rw [if_neg hb]
      cases hg : good (l ++ [x]) with
      | true => rw [if_pos rfl, whileO_go (h2 x best hx hxn hb hg)]; exact sea_loop st out h1 h2 h3 h4 c _ _ (by omega) (by omega)
      | false => rw [if_neg (by simp), whileO_go (h3 x best hx hxn hb hg)]; exact sea_loop st out h1 h2 h3 h4 c _ _ (by omega) (by omega)

theorem ok88_0 : (con88 0).Ok Try.prog := scon_false _ (by kernel_rfl) (by
  have e : (∀ (k n frm : Int) (l best : List Int) (p : List Prop), some [pre88 0 k n frm l] = some p → ¬ allP p) = (allD ((con88 0).ins.flatMap TV.ts ++ tsB (con88 0).ibl) fun env => ∀ p, (con88 0).pre env = some p → ¬ allP p) := by kernel_rfl
  rw [← e]
  intro k n frm l best p hp hq
  cases hp
  have := (allP_cons.1 hq).1
  unfold pre88 at this
  omega)
theorem goal88 (f : Nat) : (con88 (f + 1)).goal Try.prog (spS [con88 f] [con102]) g88_sh [] lm30 := by
  have e : (∀ (k n frm : Int) (l best : List Int), pre88 (f + 1) k n frm l → g88 f k n frm l best = some (seaF (rightF k n) n (f + 1) frm l best, ())) = (con88 (f + 1)).goal Try.prog (spS [con88 f] [con102]) g88_sh [] lm30 := by kernel_rfl
  rw [← e]
  rintro k n frm l best ⟨hk, hn2, hn, hf0, hfn, hr, hfu⟩
  have hl40 : l.length ≤ 41 := by
    rcases l with _ | ⟨y, l⟩
    · simp
    · have hy := hr.2 y (List.mem_cons_self ..)
      have := ris_short (n := frm - 1) (by omega) hr.1 (fun x hx => by have := hr.2 x hx; omega)
      omega
  have ht2 : ∀ x : Int, (l ++ [x]).take (l.length + 1) = l ++ [x] := fun x => List.take_of_length_le (by simp)
  have hR : ∀ x : Int, frm ≤ x → x < n → risTo (x + 1) (l ++ [x]) := fun x hx hxn => risTo_snoc hr hf0 hx
  have hP : ∀ x : Int, frm ≤ x → x < n → pre88 f k n (x + 1) (l ++ [x]) := fun x hx hxn => ⟨hk, hn2, hn, by omega, by omega, hR x hx hxn, by omega⟩
  have hQ : ∀ x : Int, frm ≤ x → x < n → rightP k n (l ++ [x]) := fun x hx hxn => by
    have h' := hR x hx hxn
    refine ⟨by simp; omega, fun y hy => by have := h'.2 y hy; omega, fun _ => okR_mk hn2 hn h'.1 fun y hy => by have := h'.2 y hy; omega⟩
  unfold g88
  simp only [seaF]
  have e1 : (0 : Int) ≤ (l.length : Int) ∧ (l.length : Int) ≤ l.length ∧ (l.length : Int) ≤ l.length := by omega
  have e2 : l.length < l.length + 1 := by omega
  have e3 : (l.length + 1) * 8 ≤ 1099511627776 := by omega
  have e4 : ∀ x : Int, l.length + 1 ≤ (l ++ [x]).length := fun x => by simp
  have ew : ∀ x : Int, frm ≤ x → x < n → wr .i64 (wr .i64 ((l.length : Int) + n) - x) = (l.length : Int) + n - x := fun x hx hxn => by rw [wr_id (n := (l.length : Int) + n) (by omega), wr_id (by omega)]
  by_cases hb : best.length < l.length
  rw [cond_t (ilt_iff.2 (by omega)), if_pos hb]
  rotate_left
  rw [cond_f (ilt_false.2 (by omega)), if_neg hb]
  all_goals
    refine sea_loop (frm := frm) (st := fun x b => ((x, b, ()) : Int × List Int × Unit)) (out := fun b => ((b, ()) : List Int × Unit)) ?_ ?_ ?_ ?_ _ frm _ (Int.le_refl _) rfl
    · intro x b hx hxn hle
      simp only [ilt_iff.2 hxn, cond_true, ew x hx hxn, ile_iff.2 hle]
    · intro x b hx hxn hle hg
      have hw : wr .i64 (x + 1) = x + 1 := wr_id (by omega)
      simp only [ilt_iff.2 hxn, cond_true, ew x hx hxn, ile_false.2 (Int.not_le.1 hle), cond_false, gd_pos e1, List.take_length, gd_pos e2, gd_pos e3, Nat.zero_add, gd_pos (e4 x), List.drop_zero, ht2, gd_pos (hQ x hx hxn), hg, hw, gd_pos (hP x hx hxn)]
    · intro x b hx hxn hle hg
      have hw : wr .i64 (x + 1) = x + 1 := wr_id (by omega)
      simp only [ilt_iff.2 hxn, cond_true, ew x hx hxn, ile_false.2 (Int.not_le.1 hle), cond_false, gd_pos e1, List.take_length, gd_pos e2, gd_pos e3, Nat.zero_add, gd_pos (e4 x), List.drop_zero, ht2, gd_pos (hQ x hx hxn), hg, hw]
    · intro x b hx
      simp only [ilt_false.2 hx, cond_false]
set_option maxRecDepth 100000 in
theorem ok88 : ∀ f, (con88 f).Ok Try.prog
  | 0 => ok88_0
  | f + 1 => SCon.of_goal mixed (okC ok102 okN) (okS (ok88 f) okS0) (con88 (f + 1)) (goal88 f)

theorem goal50 : con50.goal Try.prog (spS [con88 62] []) g50_sh [] lm30 := by
  have e : (∀ (k n frm : Int), pre88 62 k n frm [] → g50 k n frm = some (seaF (rightF k n) n 62 frm [] [], ())) = con50.goal Try.prog (spS [con88 62] []) g50_sh [] lm30 := by kernel_rfl
  rw [← e]
  intro k n frm h
  unfold g50
  rw [gd_pos h]
set_option maxRecDepth 100000 in
theorem ok50 : con50.Ok Try.prog := Con.of_goalS mixed okN (okS (ok88 62) okS0) con50 goal50
theorem pre88_0 {k n frm : Int} (hk : k = 0 ∨ k = 1 ∨ k = 2) (h2 : 2 ≤ n) (h40 : n ≤ 40) (h0 : 0 ≤ frm) (hf : frm ≤ n) : pre88 62 k n frm [] := ⟨hk, h2, h40, h0, hf, ⟨rfl, fun x hx => nomatch hx⟩, by omega⟩
theorem goal49 : con49.goal Try.prog (spOf [con50]) g49_sh [] lm30 := by
  have e : (∀ (n : Int), (1 ≤ n ∧ n ≤ 24) → g49 n = some (((seaN 2 (n + 1) 1).length : Int), ())) = con49.goal Try.prog (spOf [con50]) g49_sh [] lm30 := by kernel_rfl
  rw [← e]
  rintro n ⟨h1, h2⟩
  have hw : wr .i64 (n + 1) = n + 1 := wr_id (by omega)
  unfold g49 seaN
  simp only [hw]
  rw [gd_pos (pre88_0 (.inr (.inr rfl)) (by omega) (by omega) (by omega) (by omega))]
set_option maxRecDepth 100000 in
theorem ok49 : con49.Ok Try.prog := Con.of_goal mixed (okC ok50 okN) con49 goal49
end Go.Caps

set_option linter.unusedVariables false
set_option linter.unusedSimpArgs false
namespace Go.Caps
open Go Go.Ab Go.Proofs

section
variable {good : List Int → Bool} {n : Int}
/-- What goes on from l, with numbers from x on. -/
def Fw (good : List Int → Bool) (n : Int) (l : List Int) (x : Int) (w : List Int) : Prop := ∃ t, w = l ++ t ∧ Val good n w ∧ ∀ y ∈ t, x ≤ y
def Ew (good : List Int → Bool) (n : Int) (l : List Int) (x : Int) (w : List Int) : Prop := ∃ t, w = l ++ t ∧ t ≠ [] ∧ Val good n w ∧ ∀ y ∈ t, x ≤ y
/-- B is what is left after those of E are looked at. -/
def Bst (E : List Int → Prop) (b B : List Int) : Prop := (B = b ∨ (E B ∧ b.length < B.length ∧ ∀ w, E w → w.length = B.length → LexLe B w)) ∧ b.length ≤ B.length ∧ ∀ w, E w → w.length ≤ B.length

theorem Bst.congr {E E' : List Int → Prop} {b B : List Int} (h : Bst E b B) (he : ∀ w, E' w ↔ E w) : Bst E' b B := by
  obtain ⟨h1, h2, h3⟩ := h
  refine ⟨h1.imp id fun ⟨a1, a2, a3⟩ => ⟨(he _).2 a1, a2, fun w hw => a3 w ((he w).1 hw)⟩, h2, fun w hw => h3 w ((he w).1 hw)⟩
theorem Bst.none {E : List Int → Prop} {b : List Int} (h : ∀ w, E w → w.length ≤ b.length) : Bst E b b := ⟨.inl rfl, Nat.le_refl _, h⟩
theorem Bst.seq {E1 E2 : List Int → Prop} {b B1 B2 : List Int} (h1 : Bst E1 b B1) (h2 : Bst E2 B1 B2) (hl : ∀ u v, E1 u → E2 v → u.length = v.length → LexLe u v) : Bst (fun w => E1 w ∨ E2 w) b B2 := by
  obtain ⟨a1, a2, a3⟩ := h1
  obtain ⟨c1, c2, c3⟩ := h2
  refine ⟨?_, by omega, fun w hw => ?_⟩
  · rcases c1 with rfl | ⟨d1, d2, d3⟩
    · rcases a1 with rfl | ⟨e1, e2, e3⟩
      · exact .inl rfl
      · refine .inr ⟨.inl e1, e2, fun w hw he => ?_⟩
        rcases hw with hw | hw
        · exact e3 w hw he
        · exact hl _ _ e1 hw he.symm
    · refine .inr ⟨.inr d1, by omega, fun w hw he => ?_⟩
      rcases hw with hw | hw
      · have := a3 w hw; omega
      · exact d3 w hw he
  · rcases hw with hw | hw
    · have := a3 w hw; omega
    · exact c3 w hw

theorem Ew_step {l : List Int} {x : Int} {w : List Int} : Ew good n l x w ↔ Fw good n (l ++ [x]) (x + 1) w ∨ Ew good n l (x + 1) w := by
  constructor
  · rintro ⟨t, rfl, hne, hv, hx⟩
    rcases t with _ | ⟨y, t⟩
    · exact absurd rfl hne
    have hr : ∀ z ∈ t, y < z := fun z hz => (List.pairwise_cons.1 (List.pairwise_append.1 (ris_pw hv.1)).2.1).1 z hz
    have hy := hx y (List.mem_cons_self ..)
    rcases Int.lt_or_eq_of_le hy with hlt | rfl
    · refine .inr ⟨y :: t, rfl, by simp, hv, fun z hz => ?_⟩
      rcases List.mem_cons.1 hz with rfl | hz
      · omega
      · have := hr z hz; omega
    · exact .inl ⟨t, by simp, hv, fun z hz => by have := hr z hz; omega⟩
  · rintro (⟨t, rfl, hv, hx⟩ | ⟨t, rfl, hne, hv, hx⟩)
    · refine ⟨x :: t, by simp, by simp, hv, fun z hz => ?_⟩
      rcases List.mem_cons.1 hz with rfl | hz
      · omega
      · have := hx z hz; omega
    · exact ⟨t, rfl, hne, hv, fun z hz => by have := hx z hz; omega⟩
theorem Fw_iff {l : List Int} {x : Int} (hl : Val good n l) {w : List Int} : Fw good n l x w ↔ w = l ∨ Ew good n l x w := by
  constructor
  · rintro ⟨t, rfl, hv, hx⟩
    by_cases ht : t = []
    · subst ht; exact .inl (by simp)
    · exact .inr ⟨t, rfl, ht, hv, hx⟩
  · rintro (rfl | ⟨t, rfl, _, hv, hx⟩)
    · exact ⟨[], by simp, hl, fun y hy => nomatch hy⟩
    · exact ⟨t, rfl, hv, hx⟩
theorem Ew_lex {l : List Int} {x : Int} {u v : List Int} (hu : Fw good n (l ++ [x]) (x + 1) u) (hv : Ew good n l (x + 1) v) : LexLe u v := by
  obtain ⟨t, rfl, _, _⟩ := hu
  obtain ⟨s, rfl, hne, _, hs⟩ := hv
  rcases s with _ | ⟨y, s⟩
  · exact absurd rfl hne
  refine .inr ⟨l.length, by simp, by simp, by simp, ?_⟩
  have := hs y (List.mem_cons_self ..)
  simp
  omega
theorem pw_short {lo n : Int} : ∀ {t : List Int}, t.Pairwise (· < ·) → (∀ y ∈ t, lo ≤ y ∧ y < n) → lo ≤ n → (t.length : Int) ≤ n - lo
  | [], _, _, h => by simpa using by omega
  | y :: t, hp, hb, h => by
    obtain ⟨h1, h2⟩ := List.pairwise_cons.1 hp
    have hy := hb y (List.mem_cons_self ..)
    have := pw_short (lo := y + 1) (n := n) h2 (fun z hz => by have := h1 z hz; have := hb z (List.mem_cons_of_mem _ hz); omega) (by omega)
    rw [List.length_cons]
    omega
theorem Ew_len {l : List Int} {x : Int} (hx : x ≤ n) {w : List Int} (h : Ew good n l x w) : (w.length : Int) ≤ l.length + n - x := by
  obtain ⟨t, rfl, _, hv, ht⟩ := h
  have := pw_short (lo := x) (n := n) (List.pairwise_append.1 (ris_pw hv.1)).2.1 (fun y hy => ⟨ht y hy, (hv.2.1 y (List.mem_append_right _ hy)).2⟩) hx
  rw [List.length_append]
  omega
theorem Ew_end {l : List Int} {x : Int} (hx : n ≤ x) {w : List Int} (h : Ew good n l x w) : False := by
  obtain ⟨t, rfl, hne, hv, ht⟩ := h
  rcases t with _ | ⟨y, t⟩
  · exact hne rfl
  · have a := ht y (List.mem_cons_self ..)
    have b := hv.2.1 y (by simp)
    omega

theorem seaX_ok (her : ∀ w k, ris w = true → (∀ x ∈ w, 0 ≤ x ∧ x < n) → good w = true → good (w.take k) = true) {g : Int → List Int → List Int → List Int} {l : List Int} {frm : Int} (hl : Val good n l) (hr : risTo frm l) (h0 : 0 ≤ frm)
    (hg : ∀ x b, frm ≤ x → x < n → good (l ++ [x]) = true → Bst (Fw good n (l ++ [x]) (x + 1)) b (g (x + 1) (l ++ [x]) b)) : ∀ (c : Nat) (x : Int) (b : List Int), (n - x).toNat = c → frm ≤ x → Bst (Ew good n l x) b (seaX g good n l c x b)
  | 0, x, b, hc, hx => Bst.none fun w hw => (Ew_end (by omega) hw).elim
  | c + 1, x, b, hc, hx => by
    have hxn : x < n := by omega
    simp only [seaX]
    split
    · rename_i hb
      exact Bst.none fun w hw => by have := Ew_len (by omega) hw; omega
    · split
      · rename_i hgd
        exact ((hg x b hx hxn hgd).seq (seaX_ok her hl hr h0 hg c (x + 1) _ (by omega) (by omega)) fun u v hu hv _ => Ew_lex hu hv).congr fun w => Ew_step
      · rename_i hgd
        refine (seaX_ok her hl hr h0 hg c (x + 1) b (by omega) (by omega)).congr fun w => ?_
        rw [Ew_step]
        refine ⟨fun h => h.resolve_left fun ⟨t, ht, hv, _⟩ => ?_, .inr⟩
        have := her w (l.length + 1) hv.1 hv.2.1 hv.2.2
        rw [ht, List.take_append_of_le_length (by simp), List.take_of_length_le (by simp)] at this
        exact hgd this
theorem seaF_ok (her : ∀ w k, ris w = true → (∀ x ∈ w, 0 ≤ x ∧ x < n) → good w = true → good (w.take k) = true) : ∀ (f : Nat) (frm : Int) (l b : List Int), Val good n l → risTo frm l → 0 ≤ frm → n - frm < f → 0 ≤ n → frm ≤ n → Bst (Fw good n l frm) b (seaF good n f frm l b)
  | 0, frm, l, b, hl, hr, h0, hf, hn, hfn => by omega
  | f + 1, frm, l, b, hl, hr, h0, hf, hn, hfn => by
    simp only [seaF]
    have e1 : Bst (fun w => w = l) b (if b.length < l.length then l else b) := by
      split
      · rename_i h
        exact ⟨.inr ⟨rfl, h, fun w hw _ => .inl hw.symm⟩, Nat.le_of_lt h, fun w hw => by rw [hw]; exact Nat.le_refl _⟩
      · exact Bst.none fun w hw => by rw [hw]; omega
    have e2 := seaX_ok (good := good) (n := n) her (g := seaF good n f) hl hr h0 (fun x b hx hxn hgd => seaF_ok her f (x + 1) (l ++ [x]) b ⟨(risTo_snoc hr h0 hx).1, fun y hy => by have := (risTo_snoc hr h0 hx).2 y hy; omega, hgd⟩ (risTo_snoc hr h0 hx) (by omega) (by omega) hn (by omega)) _ frm (if b.length < l.length then l else b) rfl (Int.le_refl _)
    refine (e1.seq e2 fun u v hu hv he => ?_).congr fun w => Fw_iff hl
    subst hu
    obtain ⟨t, rfl, hne, _, _⟩ := hv
    rw [List.length_append] at he
    exact absurd (List.eq_nil_of_length_eq_zero (by omega)) hne
end

/-- What the reference's search returns. -/
theorem sea_is {good : List Int → Bool} {n frm : Int} (her : ∀ w k, ris w = true → (∀ x ∈ w, 0 ≤ x ∧ x < n) → good w = true → good (w.take k) = true) (h0 : good [] = true) (hn : 0 ≤ n) (hn2 : n ≤ 60) (hf : 0 ≤ frm) (hfn : frm ≤ n) :
    Val good n (seaF good n 62 frm [] []) ∧ (∀ y ∈ seaF good n 62 frm [] [], frm ≤ y) ∧ ∀ w, Val good n w → (∀ y ∈ w, frm ≤ y) → w.length ≤ (seaF good n 62 frm [] []).length ∧ (w.length = (seaF good n 62 frm [] []).length → LexLe (seaF good n 62 frm [] []) w) := by
  have hv0 : Val good n [] := ⟨rfl, (fun x hx => nomatch hx), h0⟩
  obtain ⟨b1, b2, b3⟩ := seaF_ok (good := good) (n := n) her 62 frm [] [] hv0 ⟨rfl, fun x hx => nomatch hx⟩ hf (by omega) hn hfn
  have mk : ∀ w, Val good n w → (∀ y ∈ w, frm ≤ y) → Fw good n [] frm w := fun w h1 h2 => ⟨w, rfl, h1, h2⟩
  rcases b1 with b1 | ⟨⟨t, ht, hv, hx⟩, b1, b1'⟩
  · refine ⟨by rw [b1]; exact hv0, (by rw [b1]; exact fun y hy => nomatch hy), fun w h1 h2 => ⟨b3 w (mk w h1 h2), fun he => ?_⟩⟩
    rw [b1] at he ⊢
    exact .inl (List.eq_nil_of_length_eq_zero he).symm
  · rw [List.nil_append] at ht
    refine ⟨hv, by rw [ht]; exact hx, fun w h1 h2 => ⟨b3 w (mk w h1 h2), fun he => b1' w (mk w h1 h2) he⟩⟩

/-- Different sums. -/
theorem sea_0 {n : Int} (h2 : 2 ≤ n) (h25 : n ≤ 25) : mostX n = (seaF (rightF 0 n) n 62 0 [] [], 0, ()) := by
  have heq : ∀ l, ris l = true → (∀ x ∈ l, 0 ≤ x ∧ x < n) → rightF 0 n l = goodM n l := fun l hr hb => (dif_sum (okR_mk h2 (by omega) hr hb)).symm
  have hg := goodQ_M h2 (show n ≤ 40 by omega)
  have her : ∀ w k, ris w = true → (∀ x ∈ w, 0 ≤ x ∧ x < n) → rightF 0 n w = true → rightF 0 n (w.take k) = true := fun w k hr hb h => by
    rw [heq _ (ris_take hr) fun x hx => hb x (List.mem_of_mem_take hx)]
    exact hg.her w k hr hb (by rw [← heq w hr hb]; exact h)
  obtain ⟨s1, _, s2⟩ := sea_is (frm := 0) her rfl (by omega) (by omega) (Int.le_refl _) (by omega)
  obtain ⟨m1, m2, _⟩ := hg.most (M := mostL (srM n) 62 []) (by omega) (by omega) rfl
  have hS : Val (goodM n) n (seaF (rightF 0 n) n 62 0 [] []) := ⟨s1.1, s1.2.1, by rw [← heq _ s1.1 s1.2.1]; exact s1.2.2⟩
  have hM : Val (rightF 0 n) n (mostL (srM n) 62 []) := ⟨m1.1, m1.2.1, by rw [heq _ m1.1 m1.2.1]; exact m1.2.2⟩
  have a1 := m2 _ hS
  have a2 := s2 _ hM fun y hy => (hM.2.1 y hy).1
  have hl : (seaF (rightF 0 n) n 62 0 [] []).length = (mostL (srM n) 62 []).length := Nat.le_antisymm a1.1 a2.1
  have := (a1.2 hl).antisymm (a2.2 hl.symm)
  unfold mostX
  rw [decide_eq_true h2, decide_eq_true h25, ← this]
  rfl
/-- No sums. -/
theorem sea_1 {n : Int} (h2 : 2 ≤ n) (h25 : n ≤ 25) : wideX n = (seaF (rightF 1 n) n 62 0 [] [], 0, ()) := by
  obtain ⟨W, w1, w2, w3, _, w4, _⟩ := wide_ok h2 h25
  obtain ⟨_, _, k1, k2⟩ := okR_spec w2
  obtain ⟨s1, _, s2⟩ := sea_is (good := rightF 1 n) (frm := 0) (fun w k a b c => goodQ_W.her w k a b c) rfl (show 0 ≤ n by omega) (by omega) (Int.le_refl _) (by omega)
  have a1 := w4 _ (okR_mk h2 (by omega) s1.1 s1.2.1) s1.2.2
  have a2 := s2 W ⟨k1, k2, w3⟩ fun y hy => (k2 y hy).1
  have hl : (seaF (rightF 1 n) n 62 0 [] []).length = W.length := Nat.le_antisymm a1.1 a2.1
  rw [w1, (a1.2 hl).antisymm (a2.2 hl.symm)]

theorem pw_map {d : Int} {l : List Int} (h : ris l = true) : ris (l.map (· + d)) = true := by
  refine pw_ris ?_
  rw [List.pairwise_map]
  exact (ris_pw h).imp fun h => by omega
theorem steps_map {d : Int} {l : List Int} (h : ris l = true) (hs : stepsF l = true) : stepsF (l.map (· + d)) = true := by
  refine (stepsF_iff (pw_map h)).2 fun a ha b hb hab hm => ?_
  obtain ⟨x, hx, rfl⟩ := List.mem_map.1 ha
  obtain ⟨y, hy, rfl⟩ := List.mem_map.1 hb
  obtain ⟨z, hz, he⟩ := List.mem_map.1 hm
  exact (stepsF_iff h).1 hs x hx y hy (by omega) (by rw [show 2 * y - x = z by omega]; exact hz)
/-- No progressions. -/
theorem sea_2 {n : Int} (h1 : 1 ≤ n) (h24 : n ≤ 24) : longX n = (((seaN 2 (n + 1) 1).length : Int), 0, ()) := by
  obtain ⟨s1, s0, s2⟩ := sea_is (good := rightF 2 (n + 1)) (n := n + 1) (frm := 1) (fun w k a b c => steps_take a c k) rfl (by omega) (by omega) (by omega) (by omega)
  have hu : ApEx n (seaN 2 (n + 1) 1).length := by
    refine ⟨(seaN 2 (n + 1) 1).map (· + -1), by simp, pw_map s1.1, fun x hx => ?_, steps_map s1.1 s1.2.2⟩
    obtain ⟨y, hy, rfl⟩ := List.mem_map.1 hx
    have a := s0 y hy
    have b := s1.2.1 y hy
    omega
  have hle := long_le (by omega) (by omega) hu
  obtain ⟨w, w1, w2, w3, w4⟩ := (long_spec (n := n) (by omega) (by omega)).1
  have hge := (s2 (w.map (· + 1)) ⟨pw_map w2, fun x hx => by
    obtain ⟨y, hy, rfl⟩ := List.mem_map.1 hx
    have := w3 y hy
    omega, steps_map w2 w4⟩ fun x hx => by
    obtain ⟨y, hy, rfl⟩ := List.mem_map.1 hx
    have := w3 y hy
    omega).1
  rw [List.length_map, w1] at hge
  have : longN n = (seaN 2 (n + 1) 1).length := Nat.le_antisymm hge hle
  unfold longX
  rw [decide_eq_true h1, decide_eq_true h24]
  show (((longN n : Nat) : Int), (0 : Int), ()) = _
  rw [this]
end Go.Caps

set_option linter.unusedVariables false
set_option linter.unusedSimpArgs false
namespace Go.Caps
open Go Go.Ab Go.Proofs

theorem mem_flt {q : Nat → Bool} {n : Nat} {x : Int} : x ∈ flt q n ↔ ∃ k, k < n ∧ q k = true ∧ (k : Int) = x := by
  unfold flt
  simp only [List.mem_map, List.mem_filter, List.mem_range, and_assoc]
theorem may_free {d x : Int} {l : List Int} : mayD d l x = (decide (0 ≤ x) && decide (x < sizeF d) && !badN d l l.length x) := by
  unfold mayD freeF
  rw [Bool.eq_iff_iff, List.contains_iff_mem, mem_flt]
  simp only [Bool.and_eq_true, decide_eq_true_eq]
  constructor
  · rintro ⟨k, h1, h2, rfl⟩
    exact ⟨⟨by omega, by omega⟩, h2⟩
  · rintro ⟨⟨h1, h2⟩, h3⟩
    have e : ((x.toNat : Nat) : Int) = x := by omega
    exact ⟨x.toNat, by omega, by rw [e]; exact h3, e⟩
theorem bad_mono {d x : Int} {l s : List Int} (h : badN d l l.length x = true) : badN d (l ++ s) (l ++ s).length x = true := by
  cases hb : badN d (l ++ s) (l ++ s).length x with
  | true => rfl
  | false =>
    have h1 := (bad_iff (d := d) (x := x) (l := l ++ s) (l ++ s).length).1 (by rw [hb]; rfl)
    have h2 : (!badN d l l.length x) = true := (bad_iff l.length).2 fun i h0 hi => by
      have := h1 i h0 (by rw [List.length_append]; omega)
      rwa [List.getD_eq_getElem?_getD, List.getElem?_append_left hi, ← List.getD_eq_getElem?_getD, List.take_append_of_le_length (by omega)] at this
    rw [h] at h2; cases h2
theorem dfs_rest {d m : Int} : ∀ (f : Nat) (frm : Int) (l r : List Int), dfsF (mayD d) (sizeF d) m f frm l = some r → ∃ t, r = l ++ t ∧ t.Pairwise (· < ·) ∧ ∀ y ∈ t, frm ≤ y ∧ y < sizeF d ∧ badN d l l.length y = false
  | 0, frm, l, r, h => by simp [dfsF] at h
  | f + 1, frm, l, r, h => by
    rw [dfsF_succ] at h
    split at h
    · cases h; exact ⟨[], by simp, List.Pairwise.nil, fun y hy => nomatch hy⟩
    · obtain ⟨y, y1, y2, y3, y4, _⟩ := tryX_some _ _ h
      obtain ⟨t, t1, t2, t3⟩ := dfs_rest f _ _ _ y4
      rw [may_free] at y3
      simp only [Bool.and_eq_true, decide_eq_true_eq, Bool.not_eq_true'] at y3
      refine ⟨y :: t, by rw [t1]; simp, List.Pairwise.cons (fun z hz => by have := t3 z hz; omega) t2, fun z hz => ?_⟩
      rcases List.mem_cons.1 hz with rfl | hz
      · exact ⟨y1, y3.1.2, y3.2⟩
      · obtain ⟨a, b, c⟩ := t3 z hz
        refine ⟨by omega, b, ?_⟩
        rw [Bool.eq_false_iff]
        intro hb
        rw [bad_mono (s := [y]) hb] at c; cases c
theorem left_le {d : Int} {l : List Int} : ∀ (c : Nat) (x : Int) (t : List Int), t.Pairwise (· < ·) → (∀ y ∈ t, x ≤ y ∧ y < x + c ∧ badN d l l.length y = false) → (t.length : Int) ≤ leftN d l c x
  | 0, x, t, hp, h => by
    rcases t with _ | ⟨y, t⟩
    · simp [leftN]
    · have := h y (List.mem_cons_self ..); omega
  | c + 1, x, t, hp, h => by
    simp only [leftN]
    have pos : (0 : Int) ≤ if badN d l l.length x = true then 0 else 1 := by split <;> omega
    rcases t with _ | ⟨y, t⟩
    · have := left_le (d := d) (l := l) c (x + 1) [] List.Pairwise.nil (fun y hy => nomatch hy)
      simp at this ⊢
      omega
    · obtain ⟨p1, p2⟩ := List.pairwise_cons.1 hp
      obtain ⟨a, b, hc⟩ := h y (List.mem_cons_self ..)
      by_cases hy : y = x
      · subst hy
        rw [hc]
        have := left_le (d := d) (l := l) c (y + 1) t p2 fun z hz => by
          have k1 := p1 z hz
          obtain ⟨k2, k3, k4⟩ := h z (List.mem_cons_of_mem _ hz)
          exact ⟨by omega, by omega, k4⟩
        simp
        omega
      · have := left_le (d := d) (l := l) c (x + 1) (y :: t) hp fun z hz => by
          obtain ⟨k2, k3, k4⟩ := h z hz
          refine ⟨?_, by omega, k4⟩
          rcases List.mem_cons.1 hz with rfl | hz
          · omega
          · have := p1 z hz; omega
        omega
theorem dfs_room {may : List Int → Int → Bool} {n m : Int} {f : Nat} {frm : Int} {l : List Int} (h : (l.length : Int) < m) (hr : n - frm < m - l.length) : dfsF may n m f frm l = none := by
  cases f with
  | zero => rfl
  | succ f =>
    rw [dfsF_succ, if_neg (by omega), show (n - (m - (l.length : Int)) + 1 - frm).toNat = 0 by omega]
    rfl
theorem dfs_room' {d m : Int} {f : Nat} {x : Int} {l : List Int} (hx : x < sizeF d) (hr : sizeF d - x < m - l.length) : dfsF (mayD d) (sizeF d) m f (x + 1) (l ++ [x]) = none :=
  dfs_room (by rw [snoc_len]; omega) (by rw [snoc_len]; omega)
theorem groX_eq {d m : Int} {l : List Int} {g G : Int → List Int → Option (List Int)} (hG : ∀ x, x < sizeF d → sizeF d - x < m - l.length → G (x + 1) (l ++ [x]) = none) : ∀ (c : Nat) (x : Int), (sizeF d - x).toNat = c → 0 ≤ x → (∀ y, x ≤ y → y < sizeF d → g (y + 1) (l ++ [y]) = G (y + 1) (l ++ [y])) →
    groX g d l c x = tryX G (mayD d) l (sizeF d - (m - l.length) + 1 - x).toNat x
  | 0, x, hc, hx, hg => by
    have none : ∀ (c : Nat) (x : Int), sizeF d ≤ x → tryX G (mayD d) l c x = none := by
      intro c
      induction c with
      | zero => intro x _; rfl
      | succ c ih =>
        intro x hx
        have : mayD d l x = false := by rw [may_free, decide_eq_false (show ¬ x < sizeF d by omega)]; simp
        simp only [tryX, this, cond_false]
        exact ih (x + 1) (by omega)
    rw [none _ _ (by omega)]; rfl
  | c + 1, x, hc, hx, hg => by
    have hxn : x < sizeF d := by omega
    have hm : mayD d l x = !badN d l l.length x := by rw [may_free, decide_eq_true hx, decide_eq_true hxn]; simp
    have ih := groX_eq hG c (x + 1) (by omega) (by omega) (fun y h1 h2 => hg y (by omega) h2)
    simp only [groX]
    by_cases hroom : sizeF d - x < m - l.length
    · have z1 : (sizeF d - (m - (l.length : Int)) + 1 - x).toNat = 0 := by omega
      have z2 : (sizeF d - (m - (l.length : Int)) + 1 - (x + 1)).toNat = 0 := by omega
      rw [z2] at ih
      rw [z1, ih]
      have := hg x (Int.le_refl _) hxn
      rw [hG x hxn hroom] at this
      split
      · rfl
      · rw [this]; rfl
    · obtain ⟨c', hc'⟩ : ∃ c', (sizeF d - (m - (l.length : Int)) + 1 - x).toNat = c' + 1 := ⟨(sizeF d - (m - (l.length : Int)) + 1 - x).toNat - 1, by omega⟩
      have hc2 : (sizeF d - (m - (l.length : Int)) + 1 - (x + 1)).toNat = c' := by omega
      rw [hc2] at ih
      rw [hc']
      simp only [tryX, hm]
      cases hb : badN d l l.length x with
      | true => rw [if_pos rfl, ih]; rfl
      | false =>
        rw [if_neg (by simp), hg x (Int.le_refl _) hxn, ih]
        simp only [Bool.not_false, cond_true]
        cases G (x + 1) (l ++ [x]) <;> rfl
theorem gro_eq {d m : Int} : ∀ (f f' : Nat) (frm : Int) (l : List Int), (l.length : Int) ≤ m → m - l.length < f → m - l.length < f' → 0 ≤ frm → frm ≤ sizeF d → groF d m f frm l = dfsF (mayD d) (sizeF d) m f' frm l
  | 0, f', frm, l, h1, h2, h3, h4, h5 => by omega
  | f + 1, 0, frm, l, h1, h2, h3, h4, h5 => by omega
  | f + 1, f' + 1, frm, l, h1, h2, h3, h4, h5 => by
    by_cases hk : (l.length : Int) = m
    · simp only [groF, dfsF, if_pos hk]
    · have e : groX (groF d m f) d l (sizeF d - frm).toNat frm = dfsF (mayD d) (sizeF d) m (f' + 1) frm l := by
        rw [dfsF_succ, if_neg hk]
        refine groX_eq (fun x hx hr => dfs_room' ?_ ?_) _ frm rfl h4 fun y hy1 hy2 => ?_
        · exact hx
        · exact hr
        · exact gro_eq f f' (y + 1) (l ++ [y]) (by rw [snoc_len]; omega) (by rw [snoc_len]; omega) (by rw [snoc_len]; omega) (by omega) (by omega)
      simp only [groF, if_neg hk]
      split
      · rename_i hlt
        cases hd : dfsF (mayD d) (sizeF d) m (f' + 1) frm l with
        | none => rfl
        | some r =>
          exfalso
          obtain ⟨t, t1, t2, t3⟩ := dfs_rest _ _ _ _ hd
          have hl := dfs_len _ _ _ _ hd
          have := left_le (d := d) (l := l) (sizeF d - frm).toNat frm t t2 fun y hy => by
            obtain ⟨a, b, c⟩ := t3 y hy
            exact ⟨a, by omega, c⟩
          rw [t1, List.length_append] at hl
          omega
      · exact e
end Go.Caps

set_option linter.unusedVariables false
set_option linter.unusedSimpArgs false
namespace Go.Caps
open Go Go.Ab Go.Proofs

theorem cnt_loop {S X : Type} {step : S → Option (Lp S X)} (st : Int → Int → S) {d N frm : Int} {l : List Int} {r : X}
    (hgo : ∀ c x, 0 ≤ c → c ≤ x → frm ≤ x → x < N → step (st c x) = some (.go (st (c + if badN d l l.length x = true then 0 else 1) (x + 1)))) :
    ∀ (k : Nat) (c x : Int), (N - x).toNat = k → x ≤ N → 0 ≤ c → c ≤ x → frm ≤ x → step (st (c + leftN d l k x) N) = some (.out r) → whileO step (st c x) = some r
  | 0, c, x, hk, hx, h0, hc, hf, he => by
    have : x = N := by omega
    subst this
    refine whileO_out ?_
    simpa [leftN] using he
  | k + 1, c, x, hk, hx, h0, hc, hf, he => by
    rw [whileO_go (hgo c x h0 hc hf (by omega))]
    refine cnt_loop st hgo k _ (x + 1) (by omega) (by omega) (by split <;> omega) (by split <;> omega) (by omega) ?_
    simp only [leftN] at he
    rw [Int.add_assoc]
    exact he
theorem gro_loop {S X : Type} {step : S → Option (Lp S X)} (st : Int → S) (out : Option (List Int) → X) {d N frm : Int} {l : List Int} {g : Int → List Int → Option (List Int)}
    (h1 : ∀ x, frm ≤ x → x < N → badN d l l.length x = true → step (st x) = some (.go (st (x + 1))))
    (h2 : ∀ x, frm ≤ x → x < N → badN d l l.length x = false → g (x + 1) (l ++ [x]) = none → step (st x) = some (.go (st (x + 1))))
    (h3 : ∀ x r, frm ≤ x → x < N → badN d l l.length x = false → g (x + 1) (l ++ [x]) = some r → step (st x) = some (.out (out (some r))))
    (h4 : ∀ x, N ≤ x → step (st x) = some (.out (out none))) :
    ∀ (c : Nat) (x : Int), (N - x).toNat = c → frm ≤ x → whileO step (st x) = some (out (groX g d l c x))
  | 0, x, hc, hx => whileO_out (h4 x (by omega))
  | c + 1, x, hc, hx => by
    simp only [groX]
    cases hb : badN d l l.length x with
    | true =>
      rw [whileO_go (h1 x hx (by omega) hb), if_pos rfl]
      exact gro_loop st out h1 h2 h3 h4 c (x + 1) (by omega) (by omega)
    | false =>
      rw [if_neg (by simp)]
      cases hg : g (x + 1) (l ++ [x]) with
      | none =>
        rw [whileO_go (h2 x hx (by omega) hb hg)]
        exact gro_loop st out h1 h2 h3 h4 c (x + 1) (by omega) (by omega)
      | some r => exact whileO_out (h3 x r hx (by omega) hb hg)

theorem left_b {d : Int} {l : List Int} : ∀ (c : Nat) (x : Int), 0 ≤ leftN d l c x ∧ leftN d l c x ≤ c
  | 0, x => by simp [leftN]
  | c + 1, x => by
    have := left_b (d := d) (l := l) c (x + 1)
    simp only [leftN]
    split <;> omega
theorem ok87_0 : (con87 0).Ok Try.prog := scon_false _ (by kernel_rfl) (by
  have e : (∀ (d n frm : Int) (l : List Int) (p : List Prop), some [pre87 0 d n frm l] = some p → ¬ allP p) = (allD ((con87 0).ins.flatMap TV.ts ++ tsB (con87 0).ibl) fun env => ∀ p, (con87 0).pre env = some p → ¬ allP p) := by kernel_rfl
  rw [← e]
  intro d n frm l p hp hq
  cases hp
  have := (allP_cons.1 hq).1
  unfold pre87 at this
  omega)
theorem goal87 (f : Nat) : (con87 (f + 1)).goal Try.prog (spS [con87 f] [con20, con68]) g87_sh [] lm30 := by
  have e : (∀ (d n frm : Int) (l : List Int), pre87 (f + 1) d n frm l → g87 f d n frm l = some (isN (groF d n (f + 1) frm l), optL (groF d n (f + 1) frm l), ())) = (con87 (f + 1)).goal Try.prog (spS [con87 f] [con20, con68]) g87_sh [] lm30 := by kernel_rfl
  rw [← e]
  rintro d n frm l ⟨hd, hn1, hn, hf0, hfs, hr, hln, hfu⟩
  have hs := size_le (d := d)
  have hcp : ∀ x ∈ l, cardP x := fun x hx => by have := hr.2 x hx; exact ⟨by omega, by omega⟩
  have h81 : l.length ≤ 81 := by omega
  unfold g87
  by_cases hk : (l.length : Int) = n
  · rw [cond_t (ieq_iff.2 hk), gd_pos (by omega)]
    simp only [groF, if_pos hk]
    rfl
  · rw [cond_f (ieq_false.2 hk)]
    have ht2 : ∀ x : Int, (l ++ [x]).take (l.length + 1) = l ++ [x] := fun x => List.take_of_length_le (by simp)
    have e1 : (0 : Int) ≤ (l.length : Int) ∧ (l.length : Int) ≤ l.length ∧ (l.length : Int) ≤ l.length := by omega
    have e2 : l.length < l.length + 1 := by omega
    have e3 : (l.length + 1) * 8 ≤ 1099511627776 := by omega
    have e4 : ∀ x : Int, l.length + 1 ≤ (l ++ [x]).length := fun x => by simp
    have hP : ∀ x : Int, frm ≤ x → x < sizeF d → pre87 f d n (x + 1) (l ++ [x]) := fun x hx hxn => ⟨hd, hn1, hn, by omega, by omega, risTo_snoc hr hf0 hx, by rw [snoc_len]; omega, by rw [snoc_len]; omega⟩
    have gm : ∀ {α : Type} (y : Option α), gd (∀ x, List.Mem x l → cardP x) y = y := fun y => gd_pos hcp
    refine cnt_loop (d := d) (N := sizeF d) (frm := frm) (l := l) (st := fun c x => ((c, x, ()) : Int × Int × Unit)) (fun c x h0 hc hx hxn => ?_) _ 0 frm rfl hfs (Int.le_refl _) hf0 (Int.le_refl _) ?_
    · have hw : wr .i64 (x + 1) = x + 1 := wr_id (by omega)
      have hw2 : wr .i64 (c + 1) = c + 1 := wr_id (by omega)
      simp only [ilt_iff.2 hxn, cond_true, gd_pos hd, gm, gd_pos h81, hw, hw2]
      cases badN d l l.length x with
      | true => simp
      | false => simp
    · have hb := left_b (d := d) (l := l) (sizeF d - frm).toNat frm
      have hw : wr .i64 ((l.length : Int) + (0 + leftN d l (sizeF d - frm).toNat frm)) = (l.length : Int) + leftN d l (sizeF d - frm).toNat frm := by rw [Int.zero_add, wr_id (by omega)]
      simp only [ilt_false.2 (Int.le_refl (sizeF d)), cond_false, hw, groF, if_neg hk]
      by_cases hlt : (l.length : Int) + leftN d l (sizeF d - frm).toNat frm < n
      · rw [cond_t (ilt_iff.2 hlt), if_pos hlt]
        simp only [gd_true]
        rfl
      · rw [cond_f (ilt_false.2 (by omega)), if_neg hlt]
        refine gro_loop (d := d) (N := sizeF d) (frm := frm) (l := l) (st := fun x => ((x, ()) : Int × Unit)) (out := fun o => Lp.out ((isN o, optL o, ()) : Bool × List Int × Unit)) (g := groF d n f) (fun x hx hxn hb => ?_) (fun x hx hxn hb hg => ?_) (fun x r hx hxn hb hg => ?_) (fun x hx => ?_) _ frm rfl (Int.le_refl _)
        · have hw : wr .i64 (x + 1) = x + 1 := wr_id (by omega)
          simp only [ilt_iff.2 hxn, cond_true, gd_pos hd, gm, gd_pos h81, hw, hb, Bool.not_true, cond_false]
        · have hw : wr .i64 (x + 1) = x + 1 := wr_id (by omega)
          simp only [ilt_iff.2 hxn, cond_true, gd_pos hd, gm, gd_pos h81, hw, hb, Bool.not_false, gd_pos e1, List.take_length, gd_pos e2, gd_pos e3, Nat.zero_add, gd_pos (e4 x), List.drop_zero, ht2, gd_pos (hP x hx hxn), hg]
          rfl
        · have hw : wr .i64 (x + 1) = x + 1 := wr_id (by omega)
          simp only [ilt_iff.2 hxn, cond_true, gd_pos hd, gm, gd_pos h81, hw, hb, Bool.not_false, gd_pos e1, List.take_length, gd_pos e2, gd_pos e3, Nat.zero_add, gd_pos (e4 x), List.drop_zero, ht2, gd_pos (hP x hx hxn), hg]
          simp only [isN, Option.isNone_some, Bool.not_false, cond_true]
          exact gd_pos fun _ p hp => nomatch hp
        · simp only [ilt_false.2 hx, cond_false, gd_true]
          rfl
set_option maxRecDepth 100000 in
theorem ok87 : ∀ f, (con87 f).Ok Try.prog
  | 0 => ok87_0
  | f + 1 => SCon.of_goal mixed (okC ok20 (okC ok68 okN)) (okS (ok87 f) okS0) (con87 (f + 1)) (goal87 f)
theorem goal48 : con48.goal Try.prog (spS [con87 22] []) g48_sh [] lm30 := by
  have e : (∀ (d : Int), (1 ≤ d ∧ d ≤ 3) → g48 d = some (optL (groF d (capN d) 22 0 []), ())) = con48.goal Try.prog (spS [con87 22] []) g48_sh [] lm30 := by kernel_rfl
  rw [← e]
  rintro d ⟨h1, h3⟩
  have hc := cap_le (d := d)
  have hd : isD d = true := isD_iff.2 (by omega)
  have hs := size_pos hd
  have hp : pre87 22 d (capN d) 0 [] := ⟨hd, by omega, by omega, Int.le_refl _, by omega, ⟨rfl, fun x hx => nomatch hx⟩, by simp; omega, by simp; omega⟩
  unfold g48
  simp only [cap_at h1 h3]
  rw [gd_pos (by omega), gd_pos hp]
  cases groF d (capN d) 22 0 [] <;> rfl
set_option maxRecDepth 100000 in
theorem ok48 : con48.Ok Try.prog := Con.of_goalS mixed okN (okS (ok87 22) okS0) con48 goal48
theorem grt_eq {d : Int} (h1 : 1 ≤ d) (h3 : d ≤ 3) : grtX d = (optL (groF d (capN d) 22 0 []), 0, ()) := by
  have hc := cap_le (d := d)
  have hs := size_pos (isD_iff.2 (show 1 ≤ d ∧ d ≤ 4 by omega))
  rw [gro_eq 22 62 0 [] (by simp; omega) (by simp; omega) (by simp; omega) (Int.le_refl _) (by omega)]
  unfold grtX srD
  rw [decide_eq_true h1, decide_eq_true h3]
  cases hd : dfsF (mayD d) (sizeF d) (capN d) 62 0 [] with
  | none => rw [sr_none hd]; rfl
  | some r => obtain ⟨s1, s2, _⟩ := sr_some hd; rw [s1, s2]; rfl
theorem gro_len {d : Int} (h1 : 1 ≤ d) (h3 : d ≤ 3) : (optL (groF d (capN d) 22 0 [])).length ≤ 9 := by
  have hc := cap_le (d := d)
  have hs := size_pos (isD_iff.2 (show 1 ≤ d ∧ d ≤ 4 by omega))
  rw [gro_eq 22 62 0 [] (by simp; omega) (by simp; omega) (by simp; omega) (Int.le_refl _) (by omega)]
  cases hd : dfsF (mayD d) (sizeF d) (capN d) 62 0 [] with
  | none => simp [optL]
  | some r =>
    have := dfs_len _ _ _ _ hd
    show r.length ≤ 9
    omega
end Go.Caps

set_option linter.unusedVariables false
set_option linter.unusedSimpArgs false
namespace Go.Caps
open Go Go.Ab Go.Proofs

theorem grt_no {n : Int} (h : ¬ (1 ≤ n ∧ n ≤ 3)) : grtX n = ([], 2, ()) := by
  unfold grtX
  have : (decide (1 ≤ n) && decide (n ≤ 3)) = false := by
    rw [Bool.eq_false_iff]; intro h'; simp only [Bool.and_eq_true, decide_eq_true_eq] at h'; exact h h'
  rw [this]; rfl
theorem long_no {n : Int} (h : ¬ (1 ≤ n ∧ n ≤ 24)) : longX n = (0, 2, ()) := by
  unfold longX
  have : (decide (1 ≤ n) && decide (n ≤ 24)) = false := by
    rw [Bool.eq_false_iff]; intro h'; simp only [Bool.and_eq_true, decide_eq_true_eq] at h'; exact h h'
  rw [this]; rfl
theorem most_no {n : Int} (h : ¬ (2 ≤ n ∧ n ≤ 25)) : mostX n = ([], 2, ()) := by
  unfold mostX
  have : (decide (2 ≤ n) && decide (n ≤ 25)) = false := by
    rw [Bool.eq_false_iff]; intro h'; simp only [Bool.and_eq_true, decide_eq_true_eq] at h'; exact h h'
  rw [this]; rfl
theorem wide_no {n : Int} (h : ¬ (2 ≤ n ∧ n ≤ 25)) : wideX n = ([], 2, ()) := by
  unfold wideX
  have : (decide (2 ≤ n) && decide (n ≤ 25)) = false := by
    rw [Bool.eq_false_iff]; intro h'; simp only [Bool.and_eq_true, decide_eq_true_eq] at h'; exact h h'
  rw [this]; rfl
theorem sea_small {n : Int} (h2 : 2 ≤ n) (h25 : n ≤ 25) : small (seaF (rightF 0 n) n 62 0 [] []) ∧ small (seaF (rightF 1 n) n 62 0 [] []) := by
  have e0 := sea_0 h2 h25
  have e1 := sea_1 h2 h25
  obtain ⟨W, w1, w2, _⟩ := wide_ok h2 h25
  obtain ⟨M, m1, m2, _⟩ := most_ok h2 h25
  rw [w1] at e1
  rw [m1] at e0
  have a := okR_len w2
  have b := okR_len m2
  have c := congrArg (fun x => x.1) e0
  have d := congrArg (fun x => x.1) e1
  dsimp only at c d
  rw [← c, ← d]
  unfold small
  exact ⟨by omega, by omega⟩
set_option maxRecDepth 100000 in
theorem goal12 : con12.goal Try.prog (spOf [con45, con46, con47, con32, con48, con27, con49, con50, con23]) g12_sh [] lm30 := by
  have e : (∀ (n : Int), g12 n = some (true, ())) = con12.goal Try.prog (spOf [con45, con46, con47, con32, con48, con27, con49, con50, con23]) g12_sh [] lm30 := by kernel_rfl
  rw [← e]
  intro n
  have hq : ∀ l : List Int, eqLf ieq l l = true := fun l => (eqLf_iff (fun x y => ieq_iff)).2 rfl
  have i0 : ieq 0 0 = true := rfl
  have i2 : ieq 2 2 = true := rfl
  have iq : ∀ x : Int, ieq x x = true := fun x => ieq_iff.2 rfl
  have w0 : wr .i64 0 = 0 := by decide
  have hs0 : small ([] : List Int) := by unfold small; simp
  have hr : (n ≤ 0) ∨ (n = 1) ∨ (2 ≤ n ∧ n ≤ 3) ∨ (4 ≤ n ∧ n ≤ 24) ∨ (n = 25) ∨ (26 ≤ n) := by omega
  rcases hr with h | h | h | h | h | h
  · have j1 : ile 1 n = false := ile_false.2 (by omega)
    have j3 : ile n 3 = true := ile_iff.2 (by omega)
    have j24 : ile n 24 = true := ile_iff.2 (by omega)
    have j2 : ilt n 2 = true := ilt_iff.2 (by omega)
    have j25 : ilt 25 n = false := ilt_false.2 (by omega)
    have G := grt_no (n := n) (by omega)
    have Lo := long_no (n := n) (by omega)
    have M := most_no (n := n) (by omega)
    have W := wide_no (n := n) (by omega)
    simp [g12, g12_c0, g12_c1, g12_c2, G, Lo, M, W, hq, i0, i2, iq, w0, gd_true, j1, j3, j24, j2, j25]
  · have j1 : ile 1 n = true := ile_iff.2 (by omega)
    have j3 : ile n 3 = true := ile_iff.2 (by omega)
    have j24 : ile n 24 = true := ile_iff.2 (by omega)
    have j2 : ilt n 2 = true := ilt_iff.2 (by omega)
    have j25 : ilt 25 n = false := ilt_false.2 (by omega)
    have G := grt_eq (d := n) (by omega) (by omega)
    have sg : small (optL (groF n (capN n) 22 0 [])) := by have := gro_len (d := n) (by omega) (by omega); unfold small; omega
    have p3 : 1 ≤ n ∧ n ≤ 3 := by omega
    have Lo := sea_2 (n := n) (by omega) (by omega)
    have p24 : 1 ≤ n ∧ n ≤ 24 := by omega
    have M := most_no (n := n) (by omega)
    have W := wide_no (n := n) (by omega)
    simp [g12, g12_c0, g12_c1, g12_c2, G, Lo, M, W, hq, i0, i2, iq, w0, gd_true, j1, j3, j24, j2, j25, gd_pos p3, gd_pos sg, gd_pos p24]
  · have j1 : ile 1 n = true := ile_iff.2 (by omega)
    have j3 : ile n 3 = true := ile_iff.2 (by omega)
    have j24 : ile n 24 = true := ile_iff.2 (by omega)
    have j2 : ilt n 2 = false := ilt_false.2 (by omega)
    have j25 : ilt 25 n = false := ilt_false.2 (by omega)
    have G := grt_eq (d := n) (by omega) (by omega)
    have sg : small (optL (groF n (capN n) 22 0 [])) := by have := gro_len (d := n) (by omega) (by omega); unfold small; omega
    have p3 : 1 ≤ n ∧ n ≤ 3 := by omega
    have Lo := sea_2 (n := n) (by omega) (by omega)
    have p24 : 1 ≤ n ∧ n ≤ 24 := by omega
    have M := sea_0 (n := n) (by omega) (by omega)
    have W := sea_1 (n := n) (by omega) (by omega)
    obtain ⟨s0, s1⟩ := sea_small (n := n) (by omega) (by omega)
    have p88 : pre88 62 0 n 0 [] := pre88_0 (.inl rfl) (by omega) (by omega) (by omega) (by omega)
    have p881 : pre88 62 1 n 0 [] := pre88_0 (.inr (.inl rfl)) (by omega) (by omega) (by omega) (by omega)
    simp [g12, g12_c0, g12_c1, g12_c2, G, Lo, M, W, hq, i0, i2, iq, w0, gd_true, j1, j3, j24, j2, j25, gd_pos p3, gd_pos sg, gd_pos p24, gd_pos s0, s1, gd_pos p88, p881, s0]
  · have j1 : ile 1 n = true := ile_iff.2 (by omega)
    have j3 : ile n 3 = false := ile_false.2 (by omega)
    have j24 : ile n 24 = true := ile_iff.2 (by omega)
    have j2 : ilt n 2 = false := ilt_false.2 (by omega)
    have j25 : ilt 25 n = false := ilt_false.2 (by omega)
    have G := grt_no (n := n) (by omega)
    have Lo := sea_2 (n := n) (by omega) (by omega)
    have p24 : 1 ≤ n ∧ n ≤ 24 := by omega
    have M := sea_0 (n := n) (by omega) (by omega)
    have W := sea_1 (n := n) (by omega) (by omega)
    obtain ⟨s0, s1⟩ := sea_small (n := n) (by omega) (by omega)
    have p88 : pre88 62 0 n 0 [] := pre88_0 (.inl rfl) (by omega) (by omega) (by omega) (by omega)
    have p881 : pre88 62 1 n 0 [] := pre88_0 (.inr (.inl rfl)) (by omega) (by omega) (by omega) (by omega)
    simp [g12, g12_c0, g12_c1, g12_c2, G, Lo, M, W, hq, i0, i2, iq, w0, gd_true, j1, j3, j24, j2, j25, gd_pos p24, gd_pos s0, s1, gd_pos p88, p881, s0]
  · have j1 : ile 1 n = true := ile_iff.2 (by omega)
    have j3 : ile n 3 = false := ile_false.2 (by omega)
    have j24 : ile n 24 = false := ile_false.2 (by omega)
    have j2 : ilt n 2 = false := ilt_false.2 (by omega)
    have j25 : ilt 25 n = false := ilt_false.2 (by omega)
    have G := grt_no (n := n) (by omega)
    have Lo := long_no (n := n) (by omega)
    have M := sea_0 (n := n) (by omega) (by omega)
    have W := sea_1 (n := n) (by omega) (by omega)
    obtain ⟨s0, s1⟩ := sea_small (n := n) (by omega) (by omega)
    have p88 : pre88 62 0 n 0 [] := pre88_0 (.inl rfl) (by omega) (by omega) (by omega) (by omega)
    have p881 : pre88 62 1 n 0 [] := pre88_0 (.inr (.inl rfl)) (by omega) (by omega) (by omega) (by omega)
    simp [g12, g12_c0, g12_c1, g12_c2, G, Lo, M, W, hq, i0, i2, iq, w0, gd_true, j1, j3, j24, j2, j25, gd_pos s0, s1, gd_pos p88, p881, s0]
  · have j1 : ile 1 n = true := ile_iff.2 (by omega)
    have j3 : ile n 3 = false := ile_false.2 (by omega)
    have j24 : ile n 24 = false := ile_false.2 (by omega)
    have j2 : ilt n 2 = false := ilt_false.2 (by omega)
    have j25 : ilt 25 n = true := ilt_iff.2 (by omega)
    have G := grt_no (n := n) (by omega)
    have Lo := long_no (n := n) (by omega)
    have M := most_no (n := n) (by omega)
    have W := wide_no (n := n) (by omega)
    simp [g12, g12_c0, g12_c1, g12_c2, G, Lo, M, W, hq, i0, i2, iq, w0, gd_true, j1, j3, j24, j2, j25]
set_option maxRecDepth 100000 in
theorem ok12 : con12.Ok Try.prog := Con.of_goal mixed (okC ok45 (okC ok46 (okC ok47 (okC ok32 (okC ok48 (okC ok27 (okC ok49 (okC ok50 (okC ok23 okN))))))))) con12 goal12
end Go.Caps
