/- Cards: contracts. -/
import Derived.Test.YtiiiojjaphckbaaProg
import Derived.Test.YtiiiojjaphckbaaAT
set_option linter.unusedVariables false
set_option linter.unusedSimpArgs false
namespace Go.Caps
open Go Go.Ab Go.Proofs

abbrev Deck : Ty := .prod I64 (.prod I64 .unit)
abbrev DeckD := Int × Int × Unit
def inC (n c : Int) : Bool := decide (0 ≤ c) && decide (c < n)
noncomputable def con93 : Con := mkC 93 [.d I64, .d (.ptr Deck)] [.bool] (fun (c : Int) (k : DeckD) => []) (fun (c : Int) (k : DeckD) => (!inC k.2.1 c, ()))
noncomputable def g93 (x0 : Int) (x1 : Int × Int × Unit) : Option (Bool × Unit) := gd ((!ilt x0 (0 : Int)) = true → (!ilt x0 (0 : Int)) = true) (gd ((!ilt x0 (0 : Int)) = true → (!ilt x0 (0 : Int)) = true ∧ (!ilt x0 (0 : Int)) = true) (gd (ilt x0 (0 : Int) = false → (!ilt x0 (0 : Int)) = true) (some ((bif ilt x0 (0 : Int) then true else ile x1.2.1 x0, ()) : Bool × Unit))))
noncomputable def g93_sh : List LSh := ([] : List LSh)
def ixNot (n : Int) : List Int → Int → Int
  | [], _ => -1
  | x :: l, i => if inC n x = true then ixNot n l (i + 1) else i
noncomputable def con98 : Con := mkC 98 [.d LI, .fn 93 [.ptr Deck]] [I64] (fun (l : List Int) (k : DeckD) => [small l]) (fun (l : List Int) (k : DeckD) => (ixNot k.2.1 l 0, ()))
noncomputable def g98 (x0 : List Int) (x1 : Int × Int × Unit) : Option (Int × Unit) := whileO (fun (d2 : (Int × Int × Unit) × Int × Unit) => bif ilt d2.2.1 (↑(List.length x0) : Int) then gd ((0 : Int) ≤ d2.2.1 ∧ d2.2.1 < (↑(List.length x0) : Int)) (bif !inC d2.1.2.1 (List.getD x0 (Int.toNat d2.2.1) (0 : Int)) then some (Lp.out ((d2.2.1, ()) : Int × Unit)) else some (Lp.go ((d2.1, wr IntKind.i64 (d2.2.1 + (1 : Int)), ()) : (Int × Int × Unit) × Int × Unit))) else some (Lp.out (((-1 : Int), ()) : Int × Unit))) ((x1, (0 : Int), ()) : (Int × Int × Unit) × Int × Unit)
noncomputable def g98_sh : List LSh := LSh.mk (((1, TV.fn (93) (TV.cons (TV.v (Ty.ptr (Ty.prod (Ty.int IntKind.i64) (Ty.prod (Ty.int IntKind.i64) Ty.unit)))) TV.nil)) : Nat × TV) :: ((8, TV.v (Ty.int IntKind.i64)) : Nat × TV) :: ([] : List (Nat × TV))) ([] : List TB) :: ([] : List LSh)
noncomputable def con72 : Con := mkC 72 [.d LI, .fn 93 [.ptr Deck]] [.bool] (fun (l : List Int) (k : DeckD) => [small l]) (fun (l : List Int) (k : DeckD) => (!l.all (inC k.2.1), ()))
noncomputable def g72 (x0 : List Int) (x1 : Int × Int × Unit) : Option (Bool × Unit) := gd (small x0) (some ((ile (0 : Int) (ixNot x1.2.1 x0 (0 : Int)), ()) : Bool × Unit))
noncomputable def g72_sh : List LSh := ([] : List LSh)
def sizeF (d : Int) : Int := if d = 1 then 3 else if d = 2 then 9 else if d = 3 then 27 else if d = 4 then 81 else 0
def isD (d : Int) : Bool := [1, 2, 3, 4].contains d
def readF (d : Int) (l : List Int) : DeckD × Bool × Unit := if isD d = true then ((d, sizeF d, ()), l.all (inC (sizeF d)), ()) else ((0, 0, ()), false, ())
noncomputable def con56 : Con := mkC 56 [.d I64, .d LI] [Deck, .bool] (fun (d : Int) (l : List Int) => [small l]) (fun (d : Int) (l : List Int) => readF d l)
noncomputable def g56 (x0 : Int) (x1 : List Int) : Option ((Int × Int × Unit) × Bool × Unit) := gd ((!ilt x0 (1 : Int)) = true → (!ilt x0 (1 : Int)) = true) (gd (ilt x0 (1 : Int) = false → (!ilt x0 (1 : Int)) = true) (bif bif ilt x0 (1 : Int) then true else ilt (4 : Int) x0 then gd ((2 : Nat) ≤ (2 : Nat)) (gd ((2 : Nat) ≤ (2 : Nat)) (some (((((0 : Int), (0 : Int), ()) : Int × Int × Unit), false, ()) : (Int × Int × Unit) × Bool × Unit))) else gd ((2 : Nat) ≤ (2 : Nat)) (whileO (fun (d2 : Int × List Int × List Int × Unit) => bif ilt d2.1 x0 then gd ((1 : Nat) < List.length d2.2.2.1) (gd ((1 : Nat) < List.length d2.2.2.1) (some (Lp.go ((wr IntKind.i64 (d2.1 + (1 : Int)), d2.2.1, List.set d2.2.2.1 (1 : Nat) (wr IntKind.i64 (List.getD d2.2.2.1 (1 : Nat) (0 : Int) * (3 : Int))), ()) : Int × List Int × List Int × Unit)))) else gd ((2 : Nat) ≤ List.length d2.2.2.1) (gd ((2 : Nat) ≤ List.length d2.2.2.1) (gd (small x1) (gd ((2 : Nat) ≤ List.length d2.2.1) (gd ((2 : Nat) ≤ List.length (setMany d2.2.1 (0 : Nat) (List.getD d2.2.2.1 (0 : Nat) (0 : Int) :: List.getD d2.2.2.1 (1 : Nat) (0 : Int) :: ([] : List Int)))) (some (Lp.out ((((List.getD (setMany d2.2.1 (0 : Nat) (List.getD d2.2.2.1 (0 : Nat) (0 : Int) :: List.getD d2.2.2.1 (1 : Nat) (0 : Int) :: ([] : List Int))) (0 : Nat) (0 : Int), List.getD (setMany d2.2.1 (0 : Nat) (List.getD d2.2.2.1 (0 : Nat) (0 : Int) :: List.getD d2.2.2.1 (1 : Nat) (0 : Int) :: ([] : List Int))) (1 : Nat) (0 : Int), ()) : Int × Int × Unit), !!List.all x1 (inC (List.getD d2.2.2.1 (1 : Nat) (0 : Int))), ()) : (Int × Int × Unit) × Bool × Unit)))))))) (((0 : Int), (0 : Int) :: (0 : Int) :: ([] : List Int), x0 :: (1 : Int) :: ([] : List Int), ()) : Int × List Int × List Int × Unit))))
noncomputable def g56_sh : List LSh := LSh.mk (((4, TV.ref (0) (1 : Nat) (0 : Nat) (0 : Nat)) : Nat × TV) :: ((6, TV.ref (1) (1 : Nat) (0 : Nat) (0 : Nat)) : Nat × TV) :: ((17, TV.v (Ty.int IntKind.i64)) : Nat × TV) :: ([] : List (Nat × TV))) (TB.arr (Ty.int IntKind.i64) false :: TB.arr (Ty.int IntKind.i64) false :: ([] : List TB)) :: ([] : List LSh)
def p3 : Nat → Int
  | 0 => 1
  | n + 1 => p3 n * 3
def tsum : Nat → Int → Int → Int
  | 0, _, _ => 0
  | n + 1, a, b => tsum n a b + (6 - a / p3 n % 3 - b / p3 n % 3) % 3 * p3 n
def thr (d a b : Int) : Int := tsum d.toNat a b
def cardP (c : Int) : Prop := 0 ≤ c ∧ c < 81
noncomputable def con57 : Con := mkC 57 [.d Deck, .d I64, .d I64] [I64] (fun (k : DeckD) (a b : Int) => [isD k.1 = true, cardP a, cardP b]) (fun (k : DeckD) (a b : Int) => (thr k.1 a b, ()))
noncomputable def g57 (x0 : Int × Int × Unit) (x1 x2 : Int) : Option (Int × Unit) := gd ((0 : Nat) < (2 : Nat)) (whileO (fun (d3 : Int × Int × Int × Int × Int × Unit) => bif ilt d3.2.2.2.2.1 x0.1 then gd ((3 : Int) ≠ (0 : Int)) (gd ((3 : Int) ≠ (0 : Int)) (gd ((3 : Int) ≠ (0 : Int)) (gd ((3 : Int) ≠ (0 : Int)) (gd ((3 : Int) ≠ (0 : Int)) (some (Lp.go ((wr IntKind.i64 (Int.tdiv d3.1 (3 : Int)), wr IntKind.i64 (Int.tdiv d3.2.1 (3 : Int)), wr IntKind.i64 (d3.2.2.1 + wr IntKind.i64 (Int.tmod (wr IntKind.i64 (wr IntKind.i64 ((6 : Int) - Int.tmod d3.1 (3 : Int)) - Int.tmod d3.2.1 (3 : Int))) (3 : Int) * d3.2.2.2.1)), wr IntKind.i64 (d3.2.2.2.1 * (3 : Int)), wr IntKind.i64 (d3.2.2.2.2.1 + (1 : Int)), ()) : Int × Int × Int × Int × Int × Unit))))))) else some (Lp.out ((d3.2.2.1, ()) : Int × Unit))) ((x1, x2, (0 : Int), (1 : Int), (0 : Int), ()) : Int × Int × Int × Int × Int × Unit))
noncomputable def g57_sh : List LSh := LSh.mk (((1, TV.v (Ty.int IntKind.i64)) : Nat × TV) :: ((2, TV.v (Ty.int IntKind.i64)) : Nat × TV) :: ((7, TV.v (Ty.int IntKind.i64)) : Nat × TV) :: ((8, TV.v (Ty.int IntKind.i64)) : Nat × TV) :: ((11, TV.v (Ty.int IntKind.i64)) : Nat × TV) :: ([] : List (Nat × TV))) ([] : List TB) :: ([] : List LSh)
noncomputable def con71 : Con := mkC 71 [.d LI] [.bool] (fun (l : List Int) => [small l]) (fun (l : List Int) => (ris l, ()))
noncomputable def g71 (x0 : List Int) : Option (Bool × Unit) := whileO (fun (d1 : Int × Unit) => bif ilt d1.1 (↑(List.length x0) : Int) then gd ((0 : Int) ≤ wr IntKind.i64 (d1.1 - (1 : Int)) ∧ wr IntKind.i64 (d1.1 - (1 : Int)) < (↑(List.length x0) : Int)) (gd ((0 : Int) ≤ d1.1 ∧ d1.1 < (↑(List.length x0) : Int)) (bif ile (List.getD x0 (Int.toNat d1.1) (0 : Int)) (List.getD x0 (Int.toNat (wr IntKind.i64 (d1.1 - (1 : Int)))) (0 : Int)) then some (Lp.out ((false, ()) : Bool × Unit)) else some (Lp.go ((wr IntKind.i64 (d1.1 + (1 : Int)), ()) : Int × Unit)))) else some (Lp.out ((true, ()) : Bool × Unit))) (((1 : Int), ()) : Int × Unit)
noncomputable def g71_sh : List LSh := LSh.mk (((3, TV.v (Ty.int IntKind.i64)) : Nat × TV) :: ([] : List (Nat × TV))) ([] : List TB) :: ([] : List LSh)
def okH (d : Int) (l : List Int) : Bool := isD d && l.all (inC (sizeF d)) && ris l
def handF (d : Int) (l : List Int) : DeckD × Bool × Unit := ((readF d l).1, (readF d l).2.1 && ris l, ())
noncomputable def con58 : Con := mkC 58 [.d I64, .d LI] [Deck, .bool] (fun (d : Int) (l : List Int) => [small l]) (fun (d : Int) (l : List Int) => handF d l)
noncomputable def g58 (x0 : Int) (x1 : List Int) : Option ((Int × Int × Unit) × Bool × Unit) := gd (small x1) (gd ((2 : Nat) ≤ (2 : Nat)) (gd ((2 : Nat) ≤ (2 : Nat)) (gd ((readF x0 x1).2.1 = true → (readF x0 x1).2.1 = true ∧ small x1) (gd ((readF x0 x1).2.1 = true → (readF x0 x1).2.1 = true) (gd ((2 : Nat) ≤ (2 : Nat)) (gd ((2 : Nat) ≤ (2 : Nat)) (some (((((readF x0 x1).1.1, (readF x0 x1).1.2.1, ()) : Int × Int × Unit), bif (readF x0 x1).2.1 then ris x1 else false, ()) : (Int × Int × Unit) × Bool × Unit))))))))
noncomputable def g58_sh : List LSh := ([] : List LSh)
def ixOf (v : Int) : List Int → Int → Int
  | [], _ => -1
  | x :: l, i => if v = x then i else ixOf v l (i + 1)
noncomputable def con91 : Con := mkC 91 [.d LI, .d I64] [I64] (fun (l : List Int) (v : Int) => [small l]) (fun (l : List Int) (v : Int) => (ixOf v l 0, ()))
noncomputable def g91 (x0 : List Int) (x1 : Int) : Option (Int × Unit) := whileO (fun (d2 : Int × Unit) => bif ilt d2.1 (↑(List.length x0) : Int) then gd ((0 : Int) ≤ d2.1 ∧ d2.1 < (↑(List.length x0) : Int)) (bif ieq x1 (List.getD x0 (Int.toNat d2.1) (0 : Int)) then some (Lp.out ((d2.1, ()) : Int × Unit)) else some (Lp.go ((wr IntKind.i64 (d2.1 + (1 : Int)), ()) : Int × Unit))) else some (Lp.out (((-1 : Int), ()) : Int × Unit))) (((0 : Int), ()) : Int × Unit)
noncomputable def g91_sh : List LSh := LSh.mk (((8, TV.v (Ty.int IntKind.i64)) : Nat × TV) :: ([] : List (Nat × TV))) ([] : List TB) :: ([] : List LSh)
noncomputable def con53 : Con := mkC 53 [.d LI, .d I64] [.bool] (fun (l : List Int) (v : Int) => [small l]) (fun (l : List Int) (v : Int) => (l.contains v, ()))
noncomputable def g53 (x0 : List Int) (x1 : Int) : Option (Bool × Unit) := gd (small x0) (some ((ile (0 : Int) (ixOf x1 x0 (0 : Int)), ()) : Bool × Unit))
noncomputable def g53_sh : List LSh := ([] : List LSh)
def thirdX (d a b : Int) : Int × Int × Unit := if isD d = true ∧ inC (sizeF d) a = true ∧ inC (sizeF d) b = true ∧ a ≠ b then (thr d a b, 0, ()) else (0, 2, ())
noncomputable def con17 : Con := mkC 17 [.d I64, .d I64, .d I64] [I64, I64] (fun (d a b : Int) => []) (fun (d a b : Int) => thirdX d a b)
noncomputable def g17 (x0 x1 x2 : Int) : Option (Int × Int × Unit) := gd (small (x1 :: x2 :: ([] : List Int))) (gd ((2 : Nat) ≤ (2 : Nat)) (gd ((!!(readF x0 (x1 :: x2 :: ([] : List Int))).2.1) = true → (!!(readF x0 (x1 :: x2 :: ([] : List Int))).2.1) = true ∧ (!!(readF x0 (x1 :: x2 :: ([] : List Int))).2.1) = true) (gd ((!(readF x0 (x1 :: x2 :: ([] : List Int))).2.1) = false → (!!(readF x0 (x1 :: x2 :: ([] : List Int))).2.1) = true) (bif bif !(readF x0 (x1 :: x2 :: ([] : List Int))).2.1 then true else ieq x1 x2 then some (((0 : Int), (2 : Int), ()) : Int × Int × Unit) else gd ((2 : Nat) ≤ (2 : Nat)) (gd (isD (readF x0 (x1 :: x2 :: ([] : List Int))).1.1 = true) (gd (cardP x1) (gd (cardP x2) (some ((thr (readF x0 (x1 :: x2 :: ([] : List Int))).1.1 x1 x2, (0 : Int), ()) : Int × Int × Unit)))))))))
noncomputable def g17_sh : List LSh := ([] : List LSh)
def setsN (d : Int) (l : List Int) : Nat → Nat
  | 0 => 0
  | i + 1 => setsN d l i + (l.drop (i + 1)).countP (fun b => decide (b < thr d (l.getD i 0) b) && l.contains (thr d (l.getD i 0) b))
def setsF (d : Int) (l : List Int) : Int := setsN d l l.length
noncomputable def con59 : Con := mkC 59 [.d Deck, .d LI] [I64] (fun (k : DeckD) (l : List Int) => [isD k.1 = true, ∀ x ∈ l, cardP x, l.length ≤ 81]) (fun (k : DeckD) (l : List Int) => (setsF k.1 l, ()))
noncomputable def g59_l0 (x1 : List Int) (d2 d3 : Int × Int × List Int × Unit) : Option (Lp (Int × Int × List Int × Unit) (Lp (Int × Int × List Int × Unit) (Int × Unit))) := bif ilt d3.2.1 (↑(List.length (List.drop (Int.toNat (wr IntKind.i64 (d2.2.1 + (1 : Int)))) x1)) : Int) then gd ((0 : Int) ≤ d3.2.1 ∧ d3.2.1 < (↑(List.length (List.drop (Int.toNat (wr IntKind.i64 (d2.2.1 + (1 : Int)))) x1)) : Int)) (gd ((2 : Nat) ≤ List.length d3.2.2.1) (gd (isD (List.getD d3.2.2.1 (0 : Nat) (0 : Int)) = true) (gd (cardP (List.getD x1 (Int.toNat d2.2.1) (0 : Int))) (gd (cardP (List.getD (List.drop (Int.toNat (wr IntKind.i64 (d2.2.1 + (1 : Int)))) x1) (Int.toNat d3.2.1) (0 : Int))) (gd (ilt (List.getD (List.drop (Int.toNat (wr IntKind.i64 (d2.2.1 + (1 : Int)))) x1) (Int.toNat d3.2.1) (0 : Int)) (thr (List.getD d3.2.2.1 (0 : Nat) (0 : Int)) (List.getD x1 (Int.toNat d2.2.1) (0 : Int)) (List.getD (List.drop (Int.toNat (wr IntKind.i64 (d2.2.1 + (1 : Int)))) x1) (Int.toNat d3.2.1) (0 : Int))) = true → ilt (List.getD (List.drop (Int.toNat (wr IntKind.i64 (d2.2.1 + (1 : Int)))) x1) (Int.toNat d3.2.1) (0 : Int)) (thr (List.getD d3.2.2.1 (0 : Nat) (0 : Int)) (List.getD x1 (Int.toNat d2.2.1) (0 : Int)) (List.getD (List.drop (Int.toNat (wr IntKind.i64 (d2.2.1 + (1 : Int)))) x1) (Int.toNat d3.2.1) (0 : Int))) = true ∧ ilt (List.getD (List.drop (Int.toNat (wr IntKind.i64 (d2.2.1 + (1 : Int)))) x1) (Int.toNat d3.2.1) (0 : Int)) (thr (List.getD d3.2.2.1 (0 : Nat) (0 : Int)) (List.getD x1 (Int.toNat d2.2.1) (0 : Int)) (List.getD (List.drop (Int.toNat (wr IntKind.i64 (d2.2.1 + (1 : Int)))) x1) (Int.toNat d3.2.1) (0 : Int))) = true ∧ small x1) (gd (ilt (List.getD (List.drop (Int.toNat (wr IntKind.i64 (d2.2.1 + (1 : Int)))) x1) (Int.toNat d3.2.1) (0 : Int)) (thr (List.getD d3.2.2.1 (0 : Nat) (0 : Int)) (List.getD x1 (Int.toNat d2.2.1) (0 : Int)) (List.getD (List.drop (Int.toNat (wr IntKind.i64 (d2.2.1 + (1 : Int)))) x1) (Int.toNat d3.2.1) (0 : Int))) = true → ilt (List.getD (List.drop (Int.toNat (wr IntKind.i64 (d2.2.1 + (1 : Int)))) x1) (Int.toNat d3.2.1) (0 : Int)) (thr (List.getD d3.2.2.1 (0 : Nat) (0 : Int)) (List.getD x1 (Int.toNat d2.2.1) (0 : Int)) (List.getD (List.drop (Int.toNat (wr IntKind.i64 (d2.2.1 + (1 : Int)))) x1) (Int.toNat d3.2.1) (0 : Int))) = true) (bif bif ilt (List.getD (List.drop (Int.toNat (wr IntKind.i64 (d2.2.1 + (1 : Int)))) x1) (Int.toNat d3.2.1) (0 : Int)) (thr (List.getD d3.2.2.1 (0 : Nat) (0 : Int)) (List.getD x1 (Int.toNat d2.2.1) (0 : Int)) (List.getD (List.drop (Int.toNat (wr IntKind.i64 (d2.2.1 + (1 : Int)))) x1) (Int.toNat d3.2.1) (0 : Int))) then List.contains x1 (thr (List.getD d3.2.2.1 (0 : Nat) (0 : Int)) (List.getD x1 (Int.toNat d2.2.1) (0 : Int)) (List.getD (List.drop (Int.toNat (wr IntKind.i64 (d2.2.1 + (1 : Int)))) x1) (Int.toNat d3.2.1) (0 : Int))) else false then some (Lp.go ((wr IntKind.i64 (d3.1 + (1 : Int)), wr IntKind.i64 (d3.2.1 + (1 : Int)), d3.2.2.1, ()) : Int × Int × List Int × Unit)) else some (Lp.go ((d3.1, wr IntKind.i64 (d3.2.1 + (1 : Int)), d3.2.2.1, ()) : Int × Int × List Int × Unit))))))))) else some (Lp.out (Lp.go ((d3.1, wr IntKind.i64 (d2.2.1 + (1 : Int)), d3.2.2.1, ()) : Int × Int × List Int × Unit)))
noncomputable def g59 (x0 : Int × Int × Unit) (x1 : List Int) : Option (Int × Unit) := whileO (fun (d2 : Int × Int × List Int × Unit) => bif ilt d2.2.1 (↑(List.length x1) : Int) then gd ((0 : Int) ≤ d2.2.1 ∧ d2.2.1 < (↑(List.length x1) : Int)) (gd ((0 : Int) ≤ wr IntKind.i64 (d2.2.1 + (1 : Int)) ∧ wr IntKind.i64 (d2.2.1 + (1 : Int)) ≤ (↑(List.length x1) : Int)) (whileO (g59_l0 x1 d2) ((d2.1, (0 : Int), d2.2.2.1, ()) : Int × Int × List Int × Unit))) else some (Lp.out ((d2.1, ()) : Int × Unit))) (((0 : Int), (0 : Int), x0.1 :: x0.2.1 :: ([] : List Int), ()) : Int × Int × List Int × Unit)
noncomputable def g59_sh : List LSh := LSh.mk (((2, TV.ref (0) (1 : Nat) (0 : Nat) (0 : Nat)) : Nat × TV) :: ((5, TV.v (Ty.int IntKind.i64)) : Nat × TV) :: ((13, TV.v (Ty.int IntKind.i64)) : Nat × TV) :: ([] : List (Nat × TV))) (TB.arr (Ty.int IntKind.i64) false :: ([] : List TB)) :: LSh.mk (((2, TV.ref (0) (1 : Nat) (0 : Nat) (0 : Nat)) : Nat × TV) :: ((5, TV.v (Ty.int IntKind.i64)) : Nat × TV) :: ((23, TV.v (Ty.int IntKind.i64)) : Nat × TV) :: ([] : List (Nat × TV))) (TB.arr (Ty.int IntKind.i64) false :: ([] : List TB)) :: ([] : List LSh)
def setsX (d : Int) (l : List Int) : Int × Int × Unit := if okH d l = true then (setsF d l, 0, ()) else (0, 2, ())
noncomputable def con18 : Con := mkC 18 [.d I64, .d LI] [I64, I64] (fun (d : Int) (l : List Int) => [small l]) (fun (d : Int) (l : List Int) => setsX d l)
noncomputable def g18 (x0 : Int) (x1 : List Int) : Option (Int × Int × Unit) := gd (small x1) (gd ((2 : Nat) ≤ (2 : Nat)) (bif !(handF x0 x1).2.1 then some (((0 : Int), (2 : Int), ()) : Int × Int × Unit) else gd ((2 : Nat) ≤ (2 : Nat)) (gd (isD (handF x0 x1).1.1 = true) (gd (∀ (x2 : Int), List.Mem x2 x1 → cardP x2) (gd (List.length x1 ≤ (81 : Nat)) (some ((setsF (handF x0 x1).1.1 x1, (0 : Int), ()) : Int × Int × Unit)))))))
noncomputable def g18_sh : List LSh := ([] : List LSh)
noncomputable def con23 : Con := mkC 23 [] [.bool] [] (true, ())
noncomputable def g23  : Option (Bool × Unit) := gd (ieq (thirdX (1 : Int) (0 : Int) (1 : Int)).1 (2 : Int) = true → ieq (thirdX (1 : Int) (0 : Int) (1 : Int)).1 (2 : Int) = true) (gd (ieq (thirdX (1 : Int) (0 : Int) (1 : Int)).1 (2 : Int) = true → ieq (thirdX (1 : Int) (0 : Int) (1 : Int)).1 (2 : Int) = true) (some ((bif ieq (thirdX (1 : Int) (0 : Int) (1 : Int)).1 (2 : Int) then ieq (thirdX (1 : Int) (0 : Int) (1 : Int)).2.1 (0 : Int) else false, ()) : Bool × Unit)))
noncomputable def g23_sh : List LSh := ([] : List LSh)
noncomputable def con20 : Con := mkC 20 [.d I64] [I64] (fun (d : Int) => []) (fun (d : Int) => (sizeF d, ()))
noncomputable def g20 (x0 : Int) : Option (Int × Unit) := gd ((!ilt x0 (1 : Int)) = true → (!ilt x0 (1 : Int)) = true) (gd (ilt x0 (1 : Int) = false → (!ilt x0 (1 : Int)) = true) (bif bif ilt x0 (1 : Int) then true else ilt (4 : Int) x0 then some (((0 : Int), ()) : Int × Unit) else whileO (fun (d1 : Int × Int × Unit) => bif ilt d1.2.1 x0 then some (Lp.go ((wr IntKind.i64 (d1.1 * (3 : Int)), wr IntKind.i64 (d1.2.1 + (1 : Int)), ()) : Int × Int × Unit)) else some (Lp.out ((d1.1, ()) : Int × Unit))) (((1 : Int), (0 : Int), ()) : Int × Int × Unit)))
noncomputable def g20_sh : List LSh := LSh.mk (((3, TV.v (Ty.int IntKind.i64)) : Nat × TV) :: ((11, TV.v (Ty.int IntKind.i64)) : Nat × TV) :: ([] : List (Nat × TV))) ([] : List TB) :: ([] : List LSh)
def inQ (lo hi c : Int) : Bool := decide (lo ≤ c) && decide (c ≤ hi)
noncomputable def con40 : Con := mkC 40 [.d LI, .d I64, .d I64] [.bool] (fun (l : List Int) (lo hi : Int) => [small l]) (fun (l : List Int) (lo hi : Int) => (l.all (inQ lo hi) && ris l, ()))
noncomputable def g40 (x0 : List Int) (x1 x2 : Int) : Option (Bool × Unit) := whileO (fun (d3 : Int × Unit) => bif ilt d3.1 (↑(List.length x0) : Int) then gd ((0 : Int) ≤ d3.1 ∧ d3.1 < (↑(List.length x0) : Int)) (gd ((!ilt (List.getD x0 (Int.toNat d3.1) (0 : Int)) x1) = true → (!ilt (List.getD x0 (Int.toNat d3.1) (0 : Int)) x1) = true ∧ (!ilt (List.getD x0 (Int.toNat d3.1) (0 : Int)) x1) = true) (gd (ilt (List.getD x0 (Int.toNat d3.1) (0 : Int)) x1 = false → (!ilt (List.getD x0 (Int.toNat d3.1) (0 : Int)) x1) = true) (gd ((!bif ilt (List.getD x0 (Int.toNat d3.1) (0 : Int)) x1 then true else ilt x2 (List.getD x0 (Int.toNat d3.1) (0 : Int))) = true → (!bif ilt (List.getD x0 (Int.toNat d3.1) (0 : Int)) x1 then true else ilt x2 (List.getD x0 (Int.toNat d3.1) (0 : Int))) = true) (gd (((!bif ilt (List.getD x0 (Int.toNat d3.1) (0 : Int)) x1 then true else ilt x2 (List.getD x0 (Int.toNat d3.1) (0 : Int))) && ((!bif ilt (List.getD x0 (Int.toNat d3.1) (0 : Int)) x1 then true else ilt x2 (List.getD x0 (Int.toNat d3.1) (0 : Int))) && ilt (0 : Int) d3.1)) = true → ((!bif ilt (List.getD x0 (Int.toNat d3.1) (0 : Int)) x1 then true else ilt x2 (List.getD x0 (Int.toNat d3.1) (0 : Int))) && ((!bif ilt (List.getD x0 (Int.toNat d3.1) (0 : Int)) x1 then true else ilt x2 (List.getD x0 (Int.toNat d3.1) (0 : Int))) && ilt (0 : Int) d3.1)) = true) (gd (((!bif ilt (List.getD x0 (Int.toNat d3.1) (0 : Int)) x1 then true else ilt x2 (List.getD x0 (Int.toNat d3.1) (0 : Int))) && ((!bif ilt (List.getD x0 (Int.toNat d3.1) (0 : Int)) x1 then true else ilt x2 (List.getD x0 (Int.toNat d3.1) (0 : Int))) && ilt (0 : Int) d3.1)) = true → ((!bif ilt (List.getD x0 (Int.toNat d3.1) (0 : Int)) x1 then true else ilt x2 (List.getD x0 (Int.toNat d3.1) (0 : Int))) && ((!bif ilt (List.getD x0 (Int.toNat d3.1) (0 : Int)) x1 then true else ilt x2 (List.getD x0 (Int.toNat d3.1) (0 : Int))) && ilt (0 : Int) d3.1)) = true ∧ ((!bif ilt (List.getD x0 (Int.toNat d3.1) (0 : Int)) x1 then true else ilt x2 (List.getD x0 (Int.toNat d3.1) (0 : Int))) && ((!bif ilt (List.getD x0 (Int.toNat d3.1) (0 : Int)) x1 then true else ilt x2 (List.getD x0 (Int.toNat d3.1) (0 : Int))) && ilt (0 : Int) d3.1)) = true ∧ (0 : Int) ≤ wr IntKind.i64 (d3.1 - (1 : Int)) ∧ wr IntKind.i64 (d3.1 - (1 : Int)) < (↑(List.length x0) : Int)) (gd (((!bif ilt (List.getD x0 (Int.toNat d3.1) (0 : Int)) x1 then true else ilt x2 (List.getD x0 (Int.toNat d3.1) (0 : Int))) && ((!bif ilt (List.getD x0 (Int.toNat d3.1) (0 : Int)) x1 then true else ilt x2 (List.getD x0 (Int.toNat d3.1) (0 : Int))) && ilt (0 : Int) d3.1)) = true → ((!bif ilt (List.getD x0 (Int.toNat d3.1) (0 : Int)) x1 then true else ilt x2 (List.getD x0 (Int.toNat d3.1) (0 : Int))) && ((!bif ilt (List.getD x0 (Int.toNat d3.1) (0 : Int)) x1 then true else ilt x2 (List.getD x0 (Int.toNat d3.1) (0 : Int))) && ilt (0 : Int) d3.1)) = true) (gd (((!bif ilt (List.getD x0 (Int.toNat d3.1) (0 : Int)) x1 then true else ilt x2 (List.getD x0 (Int.toNat d3.1) (0 : Int))) && ((!bif ilt (List.getD x0 (Int.toNat d3.1) (0 : Int)) x1 then true else ilt x2 (List.getD x0 (Int.toNat d3.1) (0 : Int))) && ilt (0 : Int) d3.1)) = true → ((!bif ilt (List.getD x0 (Int.toNat d3.1) (0 : Int)) x1 then true else ilt x2 (List.getD x0 (Int.toNat d3.1) (0 : Int))) && ((!bif ilt (List.getD x0 (Int.toNat d3.1) (0 : Int)) x1 then true else ilt x2 (List.getD x0 (Int.toNat d3.1) (0 : Int))) && ilt (0 : Int) d3.1)) = true ∧ ((!bif ilt (List.getD x0 (Int.toNat d3.1) (0 : Int)) x1 then true else ilt x2 (List.getD x0 (Int.toNat d3.1) (0 : Int))) && ((!bif ilt (List.getD x0 (Int.toNat d3.1) (0 : Int)) x1 then true else ilt x2 (List.getD x0 (Int.toNat d3.1) (0 : Int))) && ilt (0 : Int) d3.1)) = true) (gd ((!bif ilt (List.getD x0 (Int.toNat d3.1) (0 : Int)) x1 then true else ilt x2 (List.getD x0 (Int.toNat d3.1) (0 : Int))) = true → (!bif ilt (List.getD x0 (Int.toNat d3.1) (0 : Int)) x1 then true else ilt x2 (List.getD x0 (Int.toNat d3.1) (0 : Int))) = true ∧ (!bif ilt (List.getD x0 (Int.toNat d3.1) (0 : Int)) x1 then true else ilt x2 (List.getD x0 (Int.toNat d3.1) (0 : Int))) = true ∧ (ilt (0 : Int) d3.1 = true → ((!bif ilt (List.getD x0 (Int.toNat d3.1) (0 : Int)) x1 then true else ilt x2 (List.getD x0 (Int.toNat d3.1) (0 : Int))) && ((!bif ilt (List.getD x0 (Int.toNat d3.1) (0 : Int)) x1 then true else ilt x2 (List.getD x0 (Int.toNat d3.1) (0 : Int))) && ilt (0 : Int) d3.1)) = true)) (gd ((bif ilt (List.getD x0 (Int.toNat d3.1) (0 : Int)) x1 then true else ilt x2 (List.getD x0 (Int.toNat d3.1) (0 : Int))) = false → (!bif ilt (List.getD x0 (Int.toNat d3.1) (0 : Int)) x1 then true else ilt x2 (List.getD x0 (Int.toNat d3.1) (0 : Int))) = true) (bif bif bif ilt (List.getD x0 (Int.toNat d3.1) (0 : Int)) x1 then true else ilt x2 (List.getD x0 (Int.toNat d3.1) (0 : Int)) then true else bif ilt (0 : Int) d3.1 then ile (List.getD x0 (Int.toNat d3.1) (0 : Int)) (List.getD x0 (Int.toNat (wr IntKind.i64 (d3.1 - (1 : Int)))) (0 : Int)) else false then some (Lp.out ((false, ()) : Bool × Unit)) else some (Lp.go ((wr IntKind.i64 (d3.1 + (1 : Int)), ()) : Int × Unit)))))))))))) else some (Lp.out ((true, ()) : Bool × Unit))) (((0 : Int), ()) : Int × Unit)
noncomputable def g40_sh : List LSh := LSh.mk (((11, TV.v (Ty.int IntKind.i64)) : Nat × TV) :: ([] : List (Nat × TV))) ([] : List TB) :: ([] : List LSh)
noncomputable def con22 : Con := mkC 22 [.d I64, .d LI] [.bool] (fun (d : Int) (l : List Int) => [small l]) (fun (d : Int) (l : List Int) => (okH d l, ()))
noncomputable def g22 (x0 : Int) (x1 : List Int) : Option (Bool × Unit) := gd (ilt (0 : Int) (sizeF x0) = true → ilt (0 : Int) (sizeF x0) = true) (gd (ilt (0 : Int) (sizeF x0) = true → ilt (0 : Int) (sizeF x0) = true) (gd (ilt (0 : Int) (sizeF x0) = true → ilt (0 : Int) (sizeF x0) = true ∧ ilt (0 : Int) (sizeF x0) = true ∧ small x1) (gd (ilt (0 : Int) (sizeF x0) = true → ilt (0 : Int) (sizeF x0) = true) (some ((bif ilt (0 : Int) (sizeF x0) then List.all x1 (inQ (0 : Int) (wr IntKind.i64 (sizeF x0 - (1 : Int)))) && ris x1 else false, ()) : Bool × Unit)))))
noncomputable def g22_sh : List LSh := ([] : List LSh)
def setsM (d : Int) (l : List Int) : Nat → Nat
  | 0 => 0
  | i + 1 => setsM d l i + (l.take i).countP (fun b => decide (thr d (l.getD i 0) b < b) && l.contains (thr d (l.getD i 0) b))
def setsR (d : Int) (l : List Int) : Int := setsM d l l.length
noncomputable def g3 (x0 x1 x2 : Int) (x3 : List Int) : Option (Bool × Unit) := gd (small (List.take (90 : Nat) x3)) (gd ((!ieq x1 x2) = true → (!ieq x1 x2) = true) (gd (ieq x1 x2 = false → (!ieq x1 x2) = true) (gd ((!bif ieq x1 x2 then true else ilt x1 (0 : Int)) = true → (!bif ieq x1 x2 then true else ilt x1 (0 : Int)) = true) (gd ((bif ieq x1 x2 then true else ilt x1 (0 : Int)) = false → (!bif ieq x1 x2 then true else ilt x1 (0 : Int)) = true) (gd ((!bif bif ieq x1 x2 then true else ilt x1 (0 : Int) then true else ilt x2 (0 : Int)) = true → (!bif bif ieq x1 x2 then true else ilt x1 (0 : Int) then true else ilt x2 (0 : Int)) = true ∧ (!bif bif ieq x1 x2 then true else ilt x1 (0 : Int) then true else ilt x2 (0 : Int)) = true) (gd ((bif bif ieq x1 x2 then true else ilt x1 (0 : Int) then true else ilt x2 (0 : Int)) = false → (!bif bif ieq x1 x2 then true else ilt x1 (0 : Int) then true else ilt x2 (0 : Int)) = true) (gd ((!bif bif bif ieq x1 x2 then true else ilt x1 (0 : Int) then true else ilt x2 (0 : Int) then true else ile (sizeF x0) x1) = true → (!bif bif bif ieq x1 x2 then true else ilt x1 (0 : Int) then true else ilt x2 (0 : Int) then true else ile (sizeF x0) x1) = true ∧ (!bif bif bif ieq x1 x2 then true else ilt x1 (0 : Int) then true else ilt x2 (0 : Int) then true else ile (sizeF x0) x1) = true) (gd ((bif bif bif ieq x1 x2 then true else ilt x1 (0 : Int) then true else ilt x2 (0 : Int) then true else ile (sizeF x0) x1) = false → (!bif bif bif ieq x1 x2 then true else ilt x1 (0 : Int) then true else ilt x2 (0 : Int) then true else ile (sizeF x0) x1) = true) (bif bif bif bif bif ieq x1 x2 then true else ilt x1 (0 : Int) then true else ilt x2 (0 : Int) then true else ile (sizeF x0) x1 then true else ile (sizeF x0) x2 then gd ((!!ieq (thirdX x0 x1 x2).1 (0 : Int)) = true → (!!ieq (thirdX x0 x1 x2).1 (0 : Int)) = true) (gd ((!ieq (thirdX x0 x1 x2).1 (0 : Int)) = false → (!!ieq (thirdX x0 x1 x2).1 (0 : Int)) = true) (bif bif !ieq (thirdX x0 x1 x2).1 (0 : Int) then true else !ieq (thirdX x0 x1 x2).2.1 (2 : Int) then some ((false, ()) : Bool × Unit) else gd (small x3) (bif !okH x0 x3 then gd (ieq (setsX x0 (List.take (90 : Nat) x3)).1 (0 : Int) = true → ieq (setsX x0 (List.take (90 : Nat) x3)).1 (0 : Int) = true) (gd (ieq (setsX x0 (List.take (90 : Nat) x3)).1 (0 : Int) = true → ieq (setsX x0 (List.take (90 : Nat) x3)).1 (0 : Int) = true) (gd ((bif ieq (setsX x0 (List.take (90 : Nat) x3)).1 (0 : Int) then ieq (setsX x0 (List.take (90 : Nat) x3)).2.1 (2 : Int) else false) = true → (bif ieq (setsX x0 (List.take (90 : Nat) x3)).1 (0 : Int) then ieq (setsX x0 (List.take (90 : Nat) x3)).2.1 (2 : Int) else false) = true) (some ((bif bif ieq (setsX x0 (List.take (90 : Nat) x3)).1 (0 : Int) then ieq (setsX x0 (List.take (90 : Nat) x3)).2.1 (2 : Int) else false then true else false, ()) : Bool × Unit)))) else gd (isD x0 = true) (gd (∀ (x4 : Int), List.Mem x4 x3 → cardP x4) (gd (List.length x3 ≤ (81 : Nat)) (gd (ieq (setsX x0 (List.take (90 : Nat) x3)).1 (setsR x0 x3) = true → ieq (setsX x0 (List.take (90 : Nat) x3)).1 (setsR x0 x3) = true) (gd (ieq (setsX x0 (List.take (90 : Nat) x3)).1 (setsR x0 x3) = true → ieq (setsX x0 (List.take (90 : Nat) x3)).1 (setsR x0 x3) = true) (gd ((bif ieq (setsX x0 (List.take (90 : Nat) x3)).1 (setsR x0 x3) then ieq (setsX x0 (List.take (90 : Nat) x3)).2.1 (0 : Int) else false) = true → (bif ieq (setsX x0 (List.take (90 : Nat) x3)).1 (setsR x0 x3) then ieq (setsX x0 (List.take (90 : Nat) x3)).2.1 (0 : Int) else false) = true) (some ((bif bif ieq (setsX x0 (List.take (90 : Nat) x3)).1 (setsR x0 x3) then ieq (setsX x0 (List.take (90 : Nat) x3)).2.1 (0 : Int) else false then true else false, ()) : Bool × Unit)))))))))) else gd (isD x0 = true) (gd (cardP x1) (gd (cardP x2) (gd ((!!ieq (thirdX x0 x1 x2).1 (thr x0 x1 x2)) = true → (!!ieq (thirdX x0 x1 x2).1 (thr x0 x1 x2)) = true) (gd ((!ieq (thirdX x0 x1 x2).1 (thr x0 x1 x2)) = false → (!!ieq (thirdX x0 x1 x2).1 (thr x0 x1 x2)) = true) (bif bif !ieq (thirdX x0 x1 x2).1 (thr x0 x1 x2) then true else !ieq (thirdX x0 x1 x2).2.1 (0 : Int) then some ((false, ()) : Bool × Unit) else gd (small x3) (bif !okH x0 x3 then gd (ieq (setsX x0 (List.take (90 : Nat) x3)).1 (0 : Int) = true → ieq (setsX x0 (List.take (90 : Nat) x3)).1 (0 : Int) = true) (gd (ieq (setsX x0 (List.take (90 : Nat) x3)).1 (0 : Int) = true → ieq (setsX x0 (List.take (90 : Nat) x3)).1 (0 : Int) = true) (gd ((bif ieq (setsX x0 (List.take (90 : Nat) x3)).1 (0 : Int) then ieq (setsX x0 (List.take (90 : Nat) x3)).2.1 (2 : Int) else false) = true → (bif ieq (setsX x0 (List.take (90 : Nat) x3)).1 (0 : Int) then ieq (setsX x0 (List.take (90 : Nat) x3)).2.1 (2 : Int) else false) = true) (some ((bif bif ieq (setsX x0 (List.take (90 : Nat) x3)).1 (0 : Int) then ieq (setsX x0 (List.take (90 : Nat) x3)).2.1 (2 : Int) else false then true else false, ()) : Bool × Unit)))) else gd (isD x0 = true) (gd (∀ (x4 : Int), List.Mem x4 x3 → cardP x4) (gd (List.length x3 ≤ (81 : Nat)) (gd (ieq (setsX x0 (List.take (90 : Nat) x3)).1 (setsR x0 x3) = true → ieq (setsX x0 (List.take (90 : Nat) x3)).1 (setsR x0 x3) = true) (gd (ieq (setsX x0 (List.take (90 : Nat) x3)).1 (setsR x0 x3) = true → ieq (setsX x0 (List.take (90 : Nat) x3)).1 (setsR x0 x3) = true) (gd ((bif ieq (setsX x0 (List.take (90 : Nat) x3)).1 (setsR x0 x3) then ieq (setsX x0 (List.take (90 : Nat) x3)).2.1 (0 : Int) else false) = true → (bif ieq (setsX x0 (List.take (90 : Nat) x3)).1 (setsR x0 x3) then ieq (setsX x0 (List.take (90 : Nat) x3)).2.1 (0 : Int) else false) = true) (some ((bif bif ieq (setsX x0 (List.take (90 : Nat) x3)).1 (setsR x0 x3) then ieq (setsX x0 (List.take (90 : Nat) x3)).2.1 (0 : Int) else false then true else false, ()) : Bool × Unit))))))))))))))))))))))
end Go.Caps

set_option linter.unusedVariables false
set_option linter.unusedSimpArgs false
namespace Go.Caps
open Go Go.Ab Go.Proofs

theorem mixed : Try.prog.follows .mixedOrders = true := by kernel_rfl

theorem goal93 : con93.goal Try.prog (spOf []) g93_sh [] lm30 := by
  have e : (∀ (c : Int) (k : DeckD), g93 c k = some (!inC k.2.1 c, ())) = con93.goal Try.prog (spOf []) g93_sh [] lm30 := by kernel_rfl
  rw [← e]
  intro c k
  unfold g93 inC
  by_cases h1 : c < 0
  · simp [ilt_iff.2 h1, gd_true, show ¬ 0 ≤ c by omega]
  · by_cases h2 : c < k.2.1
    · simp [ilt_false.2 (Int.not_lt.1 h1), ile_false.2 h2, gd_true, h2, show 0 ≤ c by omega]
    · simp [ilt_false.2 (Int.not_lt.1 h1), ile_iff.2 (Int.not_lt.1 h2), gd_true, h2]
set_option maxRecDepth 100000 in
theorem ok93 : con93.Ok Try.prog := Con.of_goal mixed okN con93 goal93

theorem ixNot_spec {n : Int} : ∀ {l : List Int} {i : Int}, 0 ≤ i → (0 ≤ ixNot n l i ↔ l.all (inC n) = false)
  | [], i, h => by simp [ixNot]
  | x :: l, i, h => by
    rw [ixNot]
    cases hx : inC n x with
    | true => rw [if_pos rfl, ixNot_spec (by omega), List.all_cons, hx, Bool.true_and]
    | false => simp [hx, h]

theorem ixNot_go {n : Int} {l : List Int} {i : Nat} (h : i < l.length) (hq : inC n (l.getD i 0) = true) : ixNot n (l.drop i) i = ixNot n (l.drop (i + 1)) (i + 1) := by
  rw [List.drop_eq_getElem_cons h, ixNot]
  rw [gd_at h] at hq
  rw [if_pos hq]
theorem ixNot_out {n : Int} {l : List Int} {i : Nat} (h : i < l.length) (hq : inC n (l.getD i 0) = false) : ixNot n (l.drop i) i = i := by
  rw [List.drop_eq_getElem_cons h, ixNot]
  rw [gd_at h] at hq
  rw [if_neg (by rw [hq]; simp)]

theorem goal98 : con98.goal Try.prog (spOf [con93]) g98_sh [] lm30 := by
  have e : (∀ (l : List Int) (k : DeckD), small l → g98 l k = some (ixNot k.2.1 l 0, ())) = con98.goal Try.prog (spOf [con93]) g98_sh [] lm30 := by kernel_rfl
  rw [← e]
  intro l k hs
  unfold small at hs
  unfold g98
  refine whileO_rec (fun (d : DeckD × Int × Unit) => d.1 = k ∧ 0 ≤ d.2.1 ∧ d.2.1 ≤ l.length) (fun (d : DeckD × Int × Unit) => l.length - d.2.1.toNat) (fun (d : DeckD × Int × Unit) => (ixNot k.2.1 (l.drop d.2.1.toNat) d.2.1, ())) ?_ ((k, 0, ()) : DeckD × Int × Unit) ⟨rfl, by simp only; omega, by simp only; omega⟩
  rintro ⟨k', i, _⟩ ⟨rfl, h0, h1⟩
  simp only at h0 h1 ⊢
  obtain ⟨n, rfl⟩ : ∃ n : Nat, i = n := ⟨i.toNat, by omega⟩
  by_cases hlt : n < l.length
  · cases hq : inC k'.2.1 (l.getD n 0) with
    | true =>
      right
      refine ⟨((k', ((n + 1 : Nat) : Int), ()) : DeckD × Int × Unit), ?_, ⟨rfl, by simp only; omega, by simp only; omega⟩, by simp only; omega, ?_⟩
      · rw [cond_t (ilt_iff.2 (by omega)), gd_pos (by omega)]
        simp only [Int.toNat_natCast, hq, cast1 (i := n) (by omega)]
        rfl
      · simp only [Int.toNat_natCast]
        rw [ixNot_go hlt hq]; rfl
    | false =>
      left
      rw [cond_t (ilt_iff.2 (by omega)), gd_pos (by omega)]
      simp only [Int.toNat_natCast, hq]
      rw [ixNot_out hlt hq]
      rfl
  · left
    have hn : n = l.length := by omega
    rw [cond_f (ilt_false.2 (by omega))]
    simp only [Int.toNat_natCast, hn, List.drop_length, ixNot]
set_option maxRecDepth 100000 in
theorem ok98 : con98.Ok Try.prog := Con.of_goal mixed (okC ok93 okN) con98 goal98

theorem goal72 : con72.goal Try.prog (spOf [con98]) g72_sh [] lm30 := by
  have e : (∀ (l : List Int) (k : DeckD), small l → g72 l k = some (!l.all (inC k.2.1), ())) = con72.goal Try.prog (spOf [con98]) g72_sh [] lm30 := by kernel_rfl
  rw [← e]
  intro l k hs
  unfold g72
  rw [gd_pos hs]
  have h := ixNot_spec (n := k.2.1) (l := l) (i := 0) (by omega)
  cases ha : l.all (inC k.2.1) with
  | true =>
    have : ixNot k.2.1 l 0 < 0 := by
      rcases Int.lt_or_le (ixNot k.2.1 l 0) 0 with h1 | h1
      · exact h1
      · have := h.1 h1; rw [ha] at this; cases this
    rw [ile_false.2 this]; rfl
  | false => rw [ile_iff.2 (h.2 ha)]; rfl
set_option maxRecDepth 100000 in
theorem ok72 : con72.Ok Try.prog := Con.of_goal mixed (okC ok98 okN) con72 goal72

theorem isD_iff {d : Int} : isD d = true ↔ 1 ≤ d ∧ d ≤ 4 := by
  simp only [isD, List.contains_iff_mem, List.mem_cons, List.not_mem_nil, or_false]
  omega
theorem isD_cases {d : Int} (h : isD d = true) : d = 1 ∨ d = 2 ∨ d = 3 ∨ d = 4 := by
  have := isD_iff.1 h
  omega

theorem goal56 : con56.goal Try.prog (spOf [con72]) g56_sh [] lm30 := by
  have e : (∀ (d : Int) (l : List Int), small l → g56 d l = some (readF d l)) = con56.goal Try.prog (spOf [con72]) g56_sh [] lm30 := by kernel_rfl
  rw [← e]
  intro d l hs
  have w1 : wr .i64 1 = 1 := by decide
  have w2 : wr .i64 2 = 2 := by decide
  have w3 : wr .i64 3 = 3 := by decide
  have w4 : wr .i64 4 = 4 := by decide
  have w9 : wr .i64 9 = 9 := by decide
  have w27 : wr .i64 27 = 27 := by decide
  have w81 : wr .i64 81 = 81 := by decide
  unfold g56
  by_cases h : isD d = true
  · rcases isD_cases h with rfl | rfl | rfl | rfl
    · refine (?_ : _ = _)
      simp only [ilt, gd_true]
      simp [gd_true]
      refine (whileO_go (s' := ((1 : Int), [0, 0], [1, 3], ())) (by simp [gd_true, w1, w3])).trans ?_
      refine whileO_out ?_
      simp [gd_true, hs, setMany, readF, isD, sizeF]
    · simp [ilt, gd_true]
      refine (whileO_go (s' := ((1 : Int), [0, 0], [2, 3], ())) (by simp [gd_true, w1, w3])).trans ?_
      refine (whileO_go (s' := ((2 : Int), [0, 0], [2, 9], ())) (by simp [gd_true, w2, w9])).trans ?_
      refine whileO_out ?_
      simp [gd_true, hs, setMany, readF, isD, sizeF]
    · simp [ilt, gd_true]
      refine (whileO_go (s' := ((1 : Int), [0, 0], [3, 3], ())) (by simp [gd_true, w1, w3])).trans ?_
      refine (whileO_go (s' := ((2 : Int), [0, 0], [3, 9], ())) (by simp [gd_true, w2, w9])).trans ?_
      refine (whileO_go (s' := ((3 : Int), [0, 0], [3, 27], ())) (by simp [gd_true, w3, w27])).trans ?_
      refine whileO_out ?_
      simp [gd_true, hs, setMany, readF, isD, sizeF]
    · simp [ilt, gd_true]
      refine (whileO_go (s' := ((1 : Int), [0, 0], [4, 3], ())) (by simp [gd_true, w1, w3])).trans ?_
      refine (whileO_go (s' := ((2 : Int), [0, 0], [4, 9], ())) (by simp [gd_true, w2, w9])).trans ?_
      refine (whileO_go (s' := ((3 : Int), [0, 0], [4, 27], ())) (by simp [gd_true, w3, w27])).trans ?_
      refine (whileO_go (s' := ((4 : Int), [0, 0], [4, 81], ())) (by simp [gd_true, w4, w81])).trans ?_
      refine whileO_out ?_
      simp [gd_true, hs, setMany, readF, isD, sizeF]
  · have hd : d < 1 ∨ 4 < d := by
      rw [isD_iff] at h; omega
    have hX : readF d l = ((0, 0, ()), false, ()) := by rw [readF, if_neg h]
    rw [hX]
    rcases hd with hd | hd
    · simp [ilt_iff.2 hd, gd_true]
    · by_cases h1 : d < 1
      · simp [ilt_iff.2 h1, gd_true]
      · simp [ilt_false.2 (Int.not_lt.1 h1), ilt_iff.2 hd, gd_true]
set_option maxRecDepth 100000 in
theorem ok56 : con56.Ok Try.prog := Con.of_goal mixed (okC ok72 okN) con56 goal56

theorem p3_le {n : Nat} (h : n ≤ 4) : 1 ≤ p3 n ∧ p3 n ≤ 81 := by
  match n, h with
  | 0, _ => decide
  | 1, _ => decide
  | 2, _ => decide
  | 3, _ => decide
  | 4, _ => decide
theorem dig_rng (x y : Int) : 0 ≤ (6 - x % 3 - y % 3) % 3 ∧ (6 - x % 3 - y % 3) % 3 < 3 := by omega
theorem tsum_rng {a b : Int} : ∀ (n : Nat), n ≤ 4 → 0 ≤ tsum n a b ∧ tsum n a b < p3 n
  | 0, _ => by simp [tsum, p3]
  | n + 1, h => by
    have h1 := tsum_rng (a := a) (b := b) n (by omega)
    have h2 := p3_le (n := n) (by omega)
    have h3 := dig_rng (a / p3 n) (b / p3 n)
    rw [tsum, p3]
    generalize (6 - a / p3 n % 3 - b / p3 n % 3) % 3 = e at h3
    have h4 : 0 ≤ e * p3 n := Int.mul_nonneg h3.1 (by omega)
    have h5 : e * p3 n ≤ 2 * p3 n := Int.mul_le_mul_of_nonneg_right (by omega) (by omega)
    omega

theorem dig_step {x y : Int} (hx : 0 ≤ x ∧ x ≤ 81) (hy : 0 ≤ y ∧ y ≤ 81) : Int.tmod (wr .i64 (wr .i64 (6 - Int.tmod x 3) - Int.tmod y 3)) 3 = (6 - x % 3 - y % 3) % 3 := by
  rw [Int.tmod_eq_emod_of_nonneg hx.1, Int.tmod_eq_emod_of_nonneg hy.1, wr_id (n := 6 - x % 3) (by omega), wr_id (n := 6 - x % 3 - y % 3) (by omega), Int.tmod_eq_emod_of_nonneg (by omega)]

theorem goal57 : con57.goal Try.prog (spOf []) g57_sh [] lm30 := by
  have e : (∀ (k : DeckD) (a b : Int), isD k.1 = true → cardP a → cardP b → g57 k a b = some (thr k.1 a b, ())) = con57.goal Try.prog (spOf []) g57_sh [] lm30 := by kernel_rfl
  rw [← e]
  intro k a b hd ha hb
  have h4 := isD_iff.1 hd
  unfold cardP at ha hb
  unfold g57
  rw [gd_pos (by decide)]
  rw [show ((a, b, (0 : Int), (1 : Int), (0 : Int), ()) : Int × Int × Int × Int × Int × Unit) = (a / p3 0, b / p3 0, tsum 0 a b, p3 0, ((0 : Nat) : Int), ()) by simp [p3, tsum]]
  refine whileO_nat (st := fun i : Nat => ((a / p3 i, b / p3 i, tsum i a b, p3 i, (i : Int), ()) : Int × Int × Int × Int × Int × Unit)) (lo := 0) (hi := k.1.toNat) (Nat.zero_le _) ?_ ?_
  · intro i _ hi
    have h1 := p3_le (n := i) (by omega)
    have h2 := tsum_rng (a := a) (b := b) i (by omega)
    have h3 := dig_rng (a / p3 i) (b / p3 i)
    have qa : 0 ≤ a / p3 i ∧ a / p3 i ≤ 81 := ⟨Int.ediv_nonneg ha.1 (by omega), Int.le_trans (Int.ediv_le_self _ ha.1) (by omega)⟩
    have qb : 0 ≤ b / p3 i ∧ b / p3 i ≤ 81 := ⟨Int.ediv_nonneg hb.1 (by omega), Int.le_trans (Int.ediv_le_self _ hb.1) (by omega)⟩
    have ea : a / (p3 i * 3) = a / p3 i / 3 := (Int.ediv_ediv_of_nonneg (by omega)).symm
    have eb : b / (p3 i * 3) = b / p3 i / 3 := (Int.ediv_ediv_of_nonneg (by omega)).symm
    refine (cond_t (ilt_iff.2 (by simp only; omega))).trans ?_
    simp only [gd_pos (show (3 : Int) ≠ 0 by decide), dig_step qa qb, tsum, p3, ea, eb, cast1 (i := i) (by omega)]
    rw [Int.tdiv_eq_ediv_of_nonneg qa.1, Int.tdiv_eq_ediv_of_nonneg qb.1]
    generalize (6 - a / p3 i % 3 - b / p3 i % 3) % 3 = g at h3
    have h4 : 0 ≤ g * p3 i := Int.mul_nonneg h3.1 (by omega)
    have h5 : g * p3 i ≤ 2 * p3 i := Int.mul_le_mul_of_nonneg_right (by omega) (by omega)
    rw [wr_id (n := a / p3 i / 3) (by omega), wr_id (n := b / p3 i / 3) (by omega), wr_id (n := g * p3 i) (by omega), wr_id (by omega), wr_id (by omega)]
  · refine (cond_f (ilt_false.2 (by simp only; omega))).trans rfl
set_option maxRecDepth 100000 in
theorem ok57 : con57.Ok Try.prog := Con.of_goal mixed okN con57 goal57

end Go.Caps

set_option linter.unusedVariables false
set_option linter.unusedSimpArgs false
namespace Go.Caps
open Go Go.Ab Go.Proofs

theorem goal71 : con71.goal Try.prog (spOf []) g71_sh [] lm30 := by
  have e : (∀ (l : List Int), small l → g71 l = some (ris l, ())) = con71.goal Try.prog (spOf []) g71_sh [] lm30 := by kernel_rfl
  rw [← e]
  intro l hl
  unfold small at hl
  unfold g71
  refine (whileO_chk (st := fun i : Nat => ((i : Int), ())) (lo := 1) (hi := max 1 l.length) (b := ris l) (Q := fun i => decide (l.getD (i - 1) 0 < l.getD i 0)) (x := ((false, ()) : Bool × Unit)) (y := ((true, ()) : Bool × Unit)) (by omega) ?_ ?_ ?_).trans (by cases ris l <;> rfl)
  · rw [ris_iff]
    constructor
    · intro h i h0 h1
      obtain ⟨k, rfl⟩ : ∃ k, i = k + 1 := ⟨i - 1, by omega⟩
      exact decide_eq_true (h k (by omega))
    · intro h i hi
      exact of_decide_eq_true (h (i + 1) (by omega) (by omega))
  · intro i h0 h1
    have hi : i < l.length := by omega
    have e1 : wr .i64 ((i : Int) - 1) = ((i - 1 : Nat) : Int) := by rw [wr_id (by omega)]; omega
    refine (cond_t (ilt_iff.2 (by simp only; omega))).trans ?_
    simp only [e1, Int.toNat_natCast]
    rw [gd_pos (by omega), gd_pos (by omega), cast1 (by omega)]
    by_cases hq : l.getD (i - 1) 0 < l.getD i 0
    · rw [cond_f (ile_false.2 hq), decide_eq_true hq]; rfl
    · rw [cond_t (ile_iff.2 (by omega)), decide_eq_false hq]; rfl
  · refine (cond_f (ilt_false.2 (by simp only; omega))).trans rfl
set_option maxRecDepth 100000 in
theorem ok71 : con71.Ok Try.prog := Con.of_goal mixed okN con71 goal71

theorem goal58 : con58.goal Try.prog (spOf [con56, con71]) g58_sh [] lm30 := by
  have e : (∀ (d : Int) (l : List Int), small l → g58 d l = some (handF d l)) = con58.goal Try.prog (spOf [con56, con71]) g58_sh [] lm30 := by kernel_rfl
  rw [← e]
  intro d l hl
  unfold g58 handF
  cases (readF d l).2.1 <;> simp [gd_true, hl]
set_option maxRecDepth 100000 in
theorem ok58 : con58.Ok Try.prog := Con.of_goal mixed (okC ok56 (okC ok71 okN)) con58 goal58

theorem ixOf_spec {v : Int} : ∀ {l : List Int} {i : Int}, 0 ≤ i → (0 ≤ ixOf v l i ↔ l.contains v = true)
  | [], i, h => by simp [ixOf]
  | x :: l, i, h => by
    rw [ixOf]
    by_cases hx : v = x
    · simp [hx, h]
    · rw [if_neg hx, ixOf_spec (by omega)]
      simp [hx]
theorem ixOf_go {v : Int} {l : List Int} {i : Nat} (h : i < l.length) (hq : v ≠ l.getD i 0) : ixOf v (l.drop i) i = ixOf v (l.drop (i + 1)) (i + 1) := by
  rw [List.drop_eq_getElem_cons h, ixOf]
  rw [gd_at h] at hq
  rw [if_neg hq]
theorem ixOf_out {v : Int} {l : List Int} {i : Nat} (h : i < l.length) (hq : v = l.getD i 0) : ixOf v (l.drop i) i = i := by
  rw [List.drop_eq_getElem_cons h, ixOf]
  rw [gd_at h] at hq
  rw [if_pos hq]

theorem goal91 : con91.goal Try.prog (spOf []) g91_sh [] lm30 := by
  have e : (∀ (l : List Int) (v : Int), small l → g91 l v = some (ixOf v l 0, ())) = con91.goal Try.prog (spOf []) g91_sh [] lm30 := by kernel_rfl
  rw [← e]
  intro l v hs
  unfold small at hs
  unfold g91
  refine whileO_rec (fun (d : Int × Unit) => 0 ≤ d.1 ∧ d.1 ≤ l.length) (fun (d : Int × Unit) => l.length - d.1.toNat) (fun (d : Int × Unit) => (ixOf v (l.drop d.1.toNat) d.1, ())) ?_ ((0, ()) : Int × Unit) ⟨by simp only; omega, by simp only; omega⟩
  rintro ⟨i, _⟩ ⟨h0, h1⟩
  simp only at h0 h1 ⊢
  obtain ⟨n, rfl⟩ : ∃ n : Nat, i = n := ⟨i.toNat, by omega⟩
  by_cases hlt : n < l.length
  · by_cases hq : v = l.getD n 0
    · left
      rw [cond_t (ilt_iff.2 (by omega)), gd_pos (by omega)]
      simp only [Int.toNat_natCast]
      rw [cond_t (ieq_iff.2 hq), ixOf_out hlt hq]
    · right
      refine ⟨((((n + 1 : Nat) : Int), ()) : Int × Unit), ?_, ⟨by simp only; omega, by simp only; omega⟩, by simp only; omega, ?_⟩
      · rw [cond_t (ilt_iff.2 (by omega)), gd_pos (by omega)]
        simp only [Int.toNat_natCast, cast1 (i := n) (by omega)]
        rw [cond_f (by rw [ieq_d]; exact decide_eq_false hq)]
      · simp only [Int.toNat_natCast]
        rw [ixOf_go hlt hq]; rfl
  · left
    have hn : n = l.length := by omega
    rw [cond_f (ilt_false.2 (by omega))]
    simp only [Int.toNat_natCast, hn, List.drop_length, ixOf]
set_option maxRecDepth 100000 in
theorem ok91 : con91.Ok Try.prog := Con.of_goal mixed okN con91 goal91

theorem goal53 : con53.goal Try.prog (spOf [con91]) g53_sh [] lm30 := by
  have e : (∀ (l : List Int) (v : Int), small l → g53 l v = some (l.contains v, ())) = con53.goal Try.prog (spOf [con91]) g53_sh [] lm30 := by kernel_rfl
  rw [← e]
  intro l v hs
  unfold g53
  rw [gd_pos hs]
  have h := ixOf_spec (v := v) (l := l) (i := 0) (by omega)
  cases ha : l.contains v with
  | true => rw [ile_iff.2 (h.2 ha)]
  | false =>
    have : ixOf v l 0 < 0 := by
      rcases Int.lt_or_le (ixOf v l 0) 0 with h1 | h1
      · exact h1
      · have := h.1 h1; rw [ha] at this; cases this
    rw [ile_false.2 this]
set_option maxRecDepth 100000 in
theorem ok53 : con53.Ok Try.prog := Con.of_goal mixed (okC ok91 okN) con53 goal53

theorem inC_iff {n c : Int} : inC n c = true ↔ 0 ≤ c ∧ c < n := by simp [inC]
theorem size_le {d : Int} : sizeF d ≤ 81 := by
  unfold sizeF
  (repeat' split) <;> omega
theorem inC_card {d c : Int} (h : inC (sizeF d) c = true) : cardP c := by
  have := inC_iff.1 h
  have := size_le (d := d)
  unfold cardP; omega

theorem goal17 : con17.goal Try.prog (spOf [con56, con57]) g17_sh [] lm30 := by
  have e : (∀ (d a b : Int), g17 d a b = some (thirdX d a b)) = con17.goal Try.prog (spOf [con56, con57]) g17_sh [] lm30 := by kernel_rfl
  rw [← e]
  intro d a b
  have hs : small [a, b] := by simp [small]
  unfold g17
  by_cases hd : isD d = true
  · by_cases ha : inC (sizeF d) a = true
    · by_cases hb : inC (sizeF d) b = true
      · have hr : readF d [a, b] = ((d, sizeF d, ()), true, ()) := by simp [readF, hd, ha, hb]
        by_cases hab : a = b
        · subst hab
          have hX : thirdX d a a = (0, 2, ()) := by rw [thirdX, if_neg (fun h => h.2.2.2 rfl)]
          rw [hX]
          simp [hr, hs, gd_true, ieq_d]
        · have hX : thirdX d a b = (thr d a b, 0, ()) := by rw [thirdX, if_pos ⟨hd, ha, hb, hab⟩]
          rw [hX]
          simp [hr, hs, gd_true, hab, ieq_d, hd, inC_card ha, inC_card hb]
      · have hr : readF d [a, b] = ((d, sizeF d, ()), false, ()) := by simp [readF, hd, hb]
        have hX : thirdX d a b = (0, 2, ()) := by rw [thirdX, if_neg (fun h => hb h.2.2.1)]
        rw [hX]
        simp [hr, hs, gd_true]
    · have hr : readF d [a, b] = ((d, sizeF d, ()), false, ()) := by simp [readF, hd, ha]
      have hX : thirdX d a b = (0, 2, ()) := by rw [thirdX, if_neg (fun h => ha h.2.1)]
      rw [hX]
      simp [hr, hs, gd_true]
  · have hr : readF d [a, b] = ((0, 0, ()), false, ()) := by simp [readF, hd]
    have hX : thirdX d a b = (0, 2, ()) := by rw [thirdX, if_neg (fun h => hd h.1)]
    rw [hX]
    simp [hr, hs, gd_true]
set_option maxRecDepth 100000 in
theorem ok17 : con17.Ok Try.prog := Con.of_goal mixed (okC ok56 (okC ok57 okN)) con17 goal17

theorem goal23 : con23.goal Try.prog (spOf [con17]) g23_sh [] lm30 := by
  have e : (g23 = some (true, ())) = con23.goal Try.prog (spOf [con17]) g23_sh [] lm30 := by kernel_rfl
  rw [← e]
  have hX : thirdX 1 0 1 = (2, 0, ()) := by decide
  unfold g23
  rw [hX]
  simp [gd_true, ieq_d]
set_option maxRecDepth 100000 in
theorem ok23 : con23.Ok Try.prog := Con.of_goal mixed (okC ok17 okN) con23 goal23

theorem goal20 : con20.goal Try.prog (spOf []) g20_sh [] lm30 := by
  have e : (∀ (d : Int), g20 d = some (sizeF d, ())) = con20.goal Try.prog (spOf []) g20_sh [] lm30 := by kernel_rfl
  rw [← e]
  intro d
  have w1 : wr .i64 1 = 1 := by decide
  have w2 : wr .i64 2 = 2 := by decide
  have w3 : wr .i64 3 = 3 := by decide
  have w4 : wr .i64 4 = 4 := by decide
  have w9 : wr .i64 9 = 9 := by decide
  have w27 : wr .i64 27 = 27 := by decide
  have w81 : wr .i64 81 = 81 := by decide
  unfold g20
  by_cases h : isD d = true
  · rcases isD_cases h with rfl | rfl | rfl | rfl
    · simp [ilt, gd_true]
      refine (whileO_go (s' := ((3 : Int), 1, ())) (by simp [gd_true, w1, w3])).trans ?_
      refine whileO_out ?_
      simp [gd_true, sizeF]
    · simp [ilt, gd_true]
      refine (whileO_go (s' := ((3 : Int), 1, ())) (by simp [gd_true, w1, w3])).trans ?_
      refine (whileO_go (s' := ((9 : Int), 2, ())) (by simp [gd_true, w2, w9])).trans ?_
      refine whileO_out ?_
      simp [gd_true, sizeF]
    · simp [ilt, gd_true]
      refine (whileO_go (s' := ((3 : Int), 1, ())) (by simp [gd_true, w1, w3])).trans ?_
      refine (whileO_go (s' := ((9 : Int), 2, ())) (by simp [gd_true, w2, w9])).trans ?_
      refine (whileO_go (s' := ((27 : Int), 3, ())) (by simp [gd_true, w3, w27])).trans ?_
      refine whileO_out ?_
      simp [gd_true, sizeF]
    · simp [ilt, gd_true]
      refine (whileO_go (s' := ((3 : Int), 1, ())) (by simp [gd_true, w1, w3])).trans ?_
      refine (whileO_go (s' := ((9 : Int), 2, ())) (by simp [gd_true, w2, w9])).trans ?_
      refine (whileO_go (s' := ((27 : Int), 3, ())) (by simp [gd_true, w3, w27])).trans ?_
      refine (whileO_go (s' := ((81 : Int), 4, ())) (by simp [gd_true, w4, w81])).trans ?_
      refine whileO_out ?_
      simp [gd_true, sizeF]
  · have h4 : ¬ (1 ≤ d ∧ d ≤ 4) := fun hc => h (isD_iff.2 hc)
    have hX : sizeF d = 0 := by
      unfold sizeF
      rw [if_neg (by omega), if_neg (by omega), if_neg (by omega), if_neg (by omega)]
    rw [hX]
    by_cases h1 : d < 1
    · simp [ilt_iff.2 h1, gd_true]
    · simp [ilt_false.2 (Int.not_lt.1 h1), ilt_iff.2 (show 4 < d by omega), gd_true]
set_option maxRecDepth 100000 in
theorem ok20 : con20.Ok Try.prog := Con.of_goal mixed okN con20 goal20

theorem all_at {l : List Int} {f : Int → Bool} : l.all f = true ↔ ∀ i, i < l.length → f (l.getD i 0) = true := by
  rw [List.all_eq_true]
  constructor
  · intro h i hi
    rw [gd_at hi]; exact h _ (List.getElem_mem hi)
  · intro h x hx
    obtain ⟨i, hi, rfl⟩ := List.getElem_of_mem hx
    have := h i hi
    rwa [gd_at hi] at this

theorem goal40 : con40.goal Try.prog (spOf []) g40_sh [] lm30 := by
  have e : (∀ (l : List Int) (lo hi : Int), small l → g40 l lo hi = some (l.all (inQ lo hi) && ris l, ())) = con40.goal Try.prog (spOf []) g40_sh [] lm30 := by kernel_rfl
  rw [← e]
  intro l lo hi hs
  unfold small at hs
  unfold g40
  refine (whileO_chk (st := fun i : Nat => ((i : Int), ())) (lo := 0) (hi := l.length) (b := l.all (inQ lo hi) && ris l) (Q := fun i => inQ lo hi (l.getD i 0) && (decide (i = 0) || decide (l.getD (i - 1) 0 < l.getD i 0))) (x := ((false, ()) : Bool × Unit)) (y := ((true, ()) : Bool × Unit)) (Nat.zero_le _) ?_ ?_ ?_).trans (by cases (l.all (inQ lo hi) && ris l) <;> rfl)
  · rw [Bool.and_eq_true, all_at, ris_iff]
    constructor
    · rintro ⟨h1, h2⟩ i _ hi
      rw [Bool.and_eq_true, Bool.or_eq_true, decide_eq_true_eq, decide_eq_true_eq]
      refine ⟨h1 i hi, ?_⟩
      by_cases h0 : i = 0
      · exact .inl h0
      · have := h2 (i - 1) (by omega)
        rw [show i - 1 + 1 = i by omega] at this
        exact .inr this
    · intro h
      refine ⟨fun i hi => ?_, fun i hi => ?_⟩
      · have := h i (Nat.zero_le _) hi
        rw [Bool.and_eq_true] at this
        exact this.1
      · have := h (i + 1) (Nat.zero_le _) hi
        rw [Bool.and_eq_true, Bool.or_eq_true, decide_eq_true_eq, decide_eq_true_eq] at this
        rcases this.2 with h0 | h0
        · omega
        · exact h0
  · intro i _ hi'
    refine (cond_t (ilt_iff.2 (by simp only; omega))).trans ?_
    have e1 : 0 < i → wr .i64 ((i : Int) - 1) = ((i - 1 : Nat) : Int) := fun h => by rw [wr_id (by omega)]; omega
    simp only [Int.toNat_natCast, cast1 (i := i) (by omega)]
    rw [gd_pos (by omega)]
    have hw := cast1 (i := i) (by omega)
    have hi0 : (i : Int) < l.length := by omega
    generalize l.getD i 0 = u
    by_cases hu : u < lo
    · have hq : inQ lo hi u = false := by unfold inQ; rw [decide_eq_false (by omega), Bool.false_and]
      simp [gd_true, ilt_iff.2 hu, hq]
    · have hu1 : ilt u lo = false := ilt_false.2 (by omega)
      by_cases hv : hi < u
      · have hq : inQ lo hi u = false := by unfold inQ; rw [decide_eq_false (p := u ≤ hi) (by omega), Bool.and_false]
        simp [gd_true, hu1, ilt_iff.2 hv, hq]
      · have hv1 : ilt hi u = false := ilt_false.2 (by omega)
        have hq : inQ lo hi u = true := by unfold inQ; rw [decide_eq_true (by omega), decide_eq_true (by omega)]; rfl
        by_cases h0 : i = 0
        · subst h0
          have h00 : ilt 0 0 = false := by decide
          simp [gd_true, hu1, hv1, hq, h00]
        · have e1 := e1 (by omega)
          have hlt : ilt 0 (i : Int) = true := ilt_iff.2 (by omega)
          have b2 : i - 1 < l.length := by omega
          simp only [e1, hlt, Int.toNat_natCast]
          generalize l.getD (i - 1) 0 = v
          by_cases hc : v < u
          · simp [gd_true, hu1, hv1, hq, ile_false.2 hc, hc, h0, b2]
          · simp [gd_true, hu1, hv1, hq, ile_iff.2 (show u ≤ v by omega), hc, h0, b2]
  · exact (cond_f (ilt_false.2 (by simp only; omega))).trans rfl
set_option maxRecDepth 100000 in
theorem ok40 : con40.Ok Try.prog := Con.of_goal mixed okN con40 goal40

theorem goal22 : con22.goal Try.prog (spOf [con20, con40]) g22_sh [] lm30 := by
  have e : (∀ (d : Int) (l : List Int), small l → g22 d l = some (okH d l, ())) = con22.goal Try.prog (spOf [con20, con40]) g22_sh [] lm30 := by kernel_rfl
  rw [← e]
  intro d l hs
  unfold g22 okH
  by_cases h : isD d = true
  · have hb : 3 ≤ sizeF d ∧ sizeF d ≤ 81 := by
      rcases isD_cases h with rfl | rfl | rfl | rfl <;> decide
    have hq : inQ 0 (wr .i64 (sizeF d - 1)) = inC (sizeF d) := by
      funext c
      rw [wr_id (by omega)]
      unfold inQ inC
      congr 1
      rw [Bool.eq_iff_iff, decide_eq_true_eq, decide_eq_true_eq]; omega
    rw [hq, ilt_iff.2 (show 0 < sizeF d by omega)]
    simp [gd_true, hs, h]
  · have h4 : ¬ (1 ≤ d ∧ d ≤ 4) := fun hc => h (isD_iff.2 hc)
    have hX : sizeF d = 0 := by
      unfold sizeF
      rw [if_neg (by omega), if_neg (by omega), if_neg (by omega), if_neg (by omega)]
    rw [hX]
    simp [gd_true, h, ilt]
set_option maxRecDepth 100000 in
theorem ok22 : con22.Ok Try.prog := Con.of_goal mixed (okC ok20 (okC ok40 okN)) con22 goal22

end Go.Caps

set_option linter.unusedVariables false
set_option linter.unusedSimpArgs false
namespace Go.Caps
open Go Go.Ab Go.Proofs

theorem setsN_le {d : Int} {l : List Int} : ∀ i, setsN d l i ≤ l.length * i
  | 0 => by simp [setsN]
  | i + 1 => by
    have h1 := setsN_le (d := d) (l := l) i
    have h2 : (l.drop (i + 1)).countP (fun b => decide (b < thr d (l.getD i 0) b) && l.contains (thr d (l.getD i 0) b)) ≤ l.length := Nat.le_trans List.countP_le_length (by simp)
    rw [setsN, Nat.mul_succ]
    omega
theorem goal59 : con59.goal Try.prog (spOf [con57, con53]) g59_sh [] lm30 := by
  have e : (∀ (k : DeckD) (l : List Int), isD k.1 = true → (∀ x ∈ l, cardP x) → l.length ≤ 81 → g59 k l = some (setsF k.1 l, ())) = con59.goal Try.prog (spOf [con57, con53]) g59_sh [] lm30 := by kernel_rfl
  rw [← e]
  rintro ⟨d, s, _⟩ l hd hl h81
  simp only at hd
  have hs : small l := by unfold small; omega
  unfold g59
  refine whileO_nat (st := fun i : Nat => (((setsN d l i : Int), (i : Int), [d, s], ()) : Int × Int × List Int × Unit)) (lo := 0) (hi := l.length) (Nat.zero_le _) ?_ ?_
  · intro i _ hi
    have hA := hl _ (List.getElem_mem hi)
    have hn : setsN d l i ≤ 81 * 81 := Nat.le_trans (setsN_le i) (Nat.mul_le_mul h81 (by omega))
    have hw := cast1 (i := i) (by omega)
    refine (cond_t (ilt_iff.2 (by simp only; omega))).trans ?_
    simp only [hw]
    rw [gd_pos (by omega), gd_pos (by omega)]
    refine whileO_nat (st := fun j : Nat => ((((setsN d l i + ((l.drop (i + 1)).take j).countP (fun b => decide (b < thr d (l.getD i 0) b) && l.contains (thr d (l.getD i 0) b)) : Nat) : Int), (j : Int), [d, s], ()) : Int × Int × List Int × Unit)) (lo := 0) (hi := (l.drop (i + 1)).length) (Nat.zero_le _) ?_ ?_
    · intro j _ hj
      have hB := hl _ (List.mem_of_mem_drop (List.getElem_mem hj))
      have hld : (l.drop (i + 1)).length ≤ 81 := by rw [List.length_drop]; omega
      have hc : ((l.drop (i + 1)).take j).countP (fun b => decide (b < thr d (l.getD i 0) b) && l.contains (thr d (l.getD i 0) b)) ≤ j := Nat.le_trans List.countP_le_length (by rw [List.length_take]; omega)
      unfold g59_l0
      simp only [hw, Int.toNat_natCast, gd_at hj, gd_at hi, List.getD_cons_zero, List.length_cons, List.length_nil]
      rw [gd_at hi] at hc
      refine (cond_t (ilt_iff.2 (by omega))).trans ?_
      rw [gd_pos (by omega), gd_pos (by omega), gd_pos hd, gd_pos hA, gd_pos hB, gd_pos (fun h => ⟨h, h, hs⟩), gd_pos (fun h => h), take_count hj, gd_at hj, cast1 (i := j) (by omega)]
      have e1 : wr .i64 (((setsN d l i + ((l.drop (i + 1)).take j).countP (fun b => decide (b < thr d l[i] b) && l.contains (thr d l[i] b)) : Nat) : Int) + 1) = ((setsN d l i + (((l.drop (i + 1)).take j).countP (fun b => decide (b < thr d l[i] b) && l.contains (thr d l[i] b)) + 1) : Nat) : Int) := by
        rw [wr_id (by omega)]; omega
      rw [e1, ilt_d]
      generalize decide ((l.drop (i + 1))[j] < thr d l[i] (l.drop (i + 1))[j]) = q1
      generalize l.contains (thr d l[i] (l.drop (i + 1))[j]) = q2
      cases q1 <;> cases q2 <;> rfl
    · unfold g59_l0
      simp only [hw, Int.toNat_natCast]
      refine (cond_f (ilt_false.2 (by omega))).trans ?_
      rw [List.take_length]
      rfl
  · exact (cond_f (ilt_false.2 (by simp only; omega))).trans rfl
set_option maxRecDepth 100000 in
theorem ok59 : con59.Ok Try.prog := Con.of_goal mixed (okC ok57 (okC ok53 okN)) con59 goal59

theorem ris_ends {n : Int} {l : List Int} (hr : ris l = true) (hl : l.all (inC n) = true) (h0 : l ≠ []) : (l.length : Int) ≤ n := by
  rw [all_at] at hl
  have hp : 0 < l.length := List.length_pos_iff.2 h0
  have h1 := inC_iff.1 (hl 0 hp)
  have h2 := inC_iff.1 (hl (l.length - 1) (by omega))
  have h3 := ris_ge hr (l.length - 1) (by omega)
  omega
theorem okH_len {d : Int} {l : List Int} (h : okH d l = true) : l.length ≤ 81 := by
  simp only [okH, Bool.and_eq_true] at h
  by_cases h0 : l = []
  · rw [h0]; simp
  · have := ris_ends h.2 h.1.2 h0
    have := size_le (d := d)
    omega
theorem okH_take {d : Int} {l : List Int} : okH d (l.take 90) = okH d l := by
  rcases Nat.lt_or_ge 90 l.length with h | h
  · have h1 : okH d l = false := by
      rw [Bool.eq_false_iff]; intro hc; have := okH_len hc; omega
    have h2 : okH d (l.take 90) = false := by
      rw [Bool.eq_false_iff]; intro hc; have := okH_len hc; rw [List.length_take] at this; omega
    rw [h1, h2]
  · rw [List.take_of_length_le h]
theorem okH_parts {d : Int} {l : List Int} (h : okH d l = true) : isD d = true ∧ (∀ x ∈ l, inC (sizeF d) x = true) ∧ ris l = true := by
  simp only [okH, Bool.and_eq_true, List.all_eq_true] at h
  exact ⟨h.1.1, h.1.2, h.2⟩

theorem goal18 : con18.goal Try.prog (spOf [con58, con59]) g18_sh [] lm30 := by
  have e : (∀ (d : Int) (l : List Int), small l → g18 d l = some (setsX d l)) = con18.goal Try.prog (spOf [con58, con59]) g18_sh [] lm30 := by kernel_rfl
  rw [← e]
  intro d l hs
  unfold g18
  rw [gd_pos hs, gd_pos (by decide)]
  by_cases h : okH d l = true
  · obtain ⟨hd, hl, hr⟩ := okH_parts h
    have h81 := okH_len h
    have hh : handF d l = ((d, sizeF d, ()), true, ()) := by
      have : l.all (inC (sizeF d)) = true := List.all_eq_true.2 hl
      simp [handF, readF, hd, this, hr]
    have hX : setsX d l = (setsF d l, 0, ()) := by rw [setsX, if_pos h]
    rw [hX, hh]
    refine (cond_f rfl).trans ?_
    rw [gd_pos (by decide), gd_pos hd, gd_pos (show ∀ x, List.Mem x l → cardP x from fun x hx => inC_card (hl x hx)), gd_pos h81]
  · have hh : (handF d l).2.1 = false := by
      cases hc : (handF d l).2.1 with
      | false => rfl
      | true =>
        exfalso
        apply h
        unfold handF readF at hc
        split at hc
        · rename_i hd
          simp only [Bool.and_eq_true] at hc
          simp only [okH, Bool.and_eq_true]
          exact ⟨⟨hd, hc.1⟩, hc.2⟩
        · simp at hc
    have hX : setsX d l = (0, 2, ()) := by rw [setsX, if_neg h]
    rw [hX, hh]
    rfl
set_option maxRecDepth 100000 in
theorem ok18 : con18.Ok Try.prog := Con.of_goal mixed (okC ok58 (okC ok59 okN)) con18 goal18

end Go.Caps

set_option linter.unusedVariables false
set_option linter.unusedSimpArgs false
namespace Go.Caps
open Go Go.Ab Go.Proofs

/-! sums over lists -/
def S (l : List Int) (g : Int → Nat) : Nat := match l with
  | [] => 0
  | x :: r => g x + S r g
/-! pairs in order -/
def upS (g : Int → Int → Bool) : List Int → Nat
  | [] => 0
  | x :: r => r.countP (g x) + upS g r
theorem setsN_up {d : Int} {l : List Int} : ∀ i, i ≤ l.length → setsN d l i + upS (fun x y => decide (y < thr d x y) && l.contains (thr d x y)) (l.drop i) = upS (fun x y => decide (y < thr d x y) && l.contains (thr d x y)) l
  | 0, _ => by simp [setsN]
  | i + 1, h => by
    have h1 := setsN_up (d := d) (l := l) i (by omega)
    rw [List.drop_eq_getElem_cons (by omega), upS] at h1
    rw [setsN, gd_at (by omega)]
    omega
theorem thr_tab : ∀ d ∈ ([1, 2, 3, 4] : List Int), ∀ x ∈ List.range (sizeF d).toNat, ∀ y ∈ List.range (sizeF d).toNat, (decide (thr d (thr d (x : Int) (y : Int)) (y : Int) = x) && inC (sizeF d) (thr d (x : Int) (y : Int))) = true := by decide +kernel
theorem tsum_comm {a b : Int} : ∀ n, tsum n a b = tsum n b a
  | 0 => rfl
  | n + 1 => by
    rw [tsum, tsum, tsum_comm n]
    have : 6 - a / p3 n % 3 - b / p3 n % 3 = 6 - b / p3 n % 3 - a / p3 n % 3 := by omega
    rw [this]
theorem thr_comm {d a b : Int} : thr d a b = thr d b a := tsum_comm _
theorem thr_inv {d x y : Int} (hd : isD d = true) (hx : inC (sizeF d) x = true) (hy : inC (sizeF d) y = true) : thr d (thr d x y) y = x ∧ inC (sizeF d) (thr d x y) = true := by
  have h1 := inC_iff.1 hx
  have h2 := inC_iff.1 hy
  have hd' : d ∈ ([1, 2, 3, 4] : List Int) := by
    rcases isD_cases hd with rfl | rfl | rfl | rfl <;> simp
  have h := thr_tab d hd' x.toNat (List.mem_range.2 (by omega)) y.toNat (List.mem_range.2 (by omega))
  rw [Int.toNat_of_nonneg h1.1, Int.toNat_of_nonneg h2.1, Bool.and_eq_true, decide_eq_true_eq] at h
  exact h
end Go.Caps

set_option linter.unusedVariables false
set_option linter.unusedSimpArgs false
namespace Go.Caps
open Go Go.Ab Go.Proofs

def capX (d : Int) (l : List Int) : Bool × Int × Unit := if okH d l = true then (ieq (setsF d l) 0, 0, ()) else (false, 2, ())
noncomputable def con29 : Con := mkC 29 [.d I64, .d LI] [.bool, I64] (fun (d : Int) (l : List Int) => [small l]) (fun (d : Int) (l : List Int) => capX d l)
noncomputable def g29 (x0 : Int) (x1 : List Int) : Option (Bool × Int × Unit) := gd (small x1) (gd (ieq (setsX x0 x1).2.1 (0 : Int) = true → ieq (setsX x0 x1).2.1 (0 : Int) = true) (gd (ieq (setsX x0 x1).2.1 (0 : Int) = true → ieq (setsX x0 x1).2.1 (0 : Int) = true) (some ((bif ieq (setsX x0 x1).2.1 (0 : Int) then ieq (setsX x0 x1).1 (0 : Int) else false, (setsX x0 x1).2.1, ()) : Bool × Int × Unit))))
noncomputable def g29_sh : List LSh := ([] : List LSh)
def badN (d : Int) (l : List Int) : Nat → Int → Bool
  | 0, _ => false
  | i + 1, x => badN d l i x || (decide (l.getD i 0 = x) || (l.take i).any (fun b => decide (thr d (l.getD i 0) b = x)))
def freeF (d : Int) (l : List Int) : List Int := flt (fun (x : Nat) => !badN d l l.length (x : Int)) (sizeF d).toNat
noncomputable def con67 : Con := mkC 67 [.d Deck, .d LI] [LI] (fun (k : DeckD) (l : List Int) => [isD k.1 = true, k.2.1 = sizeF k.1, ∀ x ∈ l, inC (sizeF k.1) x = true, l.length ≤ 81]) (fun (k : DeckD) (l : List Int) => (freeF k.1 l, ()))
noncomputable def g67_l0 (x1 : List Int) (d2 : Int × List Int × List Bool × Unit) (d3 : Int × Int × List Int × List Bool × Unit) : Option (Lp (Int × Int × List Int × List Bool × Unit) (Lp (Int × List Int × List Bool × Unit) (List Int × Unit))) := bif ilt d3.2.1 (↑(List.length (List.take (Int.toNat d2.1) x1)) : Int) then gd ((0 : Int) ≤ d3.2.1 ∧ d3.2.1 < (↑(List.length (List.take (Int.toNat d2.1) x1)) : Int)) (gd ((2 : Nat) ≤ List.length d3.2.2.1) (gd (isD (List.getD d3.2.2.1 (0 : Nat) (0 : Int)) = true) (gd (cardP (List.getD x1 (Int.toNat d2.1) (0 : Int))) (gd (cardP (List.getD (List.take (Int.toNat d2.1) x1) (Int.toNat d3.2.1) (0 : Int))) (gd ((0 : Int) ≤ thr (List.getD d3.2.2.1 (0 : Nat) (0 : Int)) (List.getD x1 (Int.toNat d2.1) (0 : Int)) (List.getD (List.take (Int.toNat d2.1) x1) (Int.toNat d3.2.1) (0 : Int)) ∧ thr (List.getD d3.2.2.1 (0 : Nat) (0 : Int)) (List.getD x1 (Int.toNat d2.1) (0 : Int)) (List.getD (List.take (Int.toNat d2.1) x1) (Int.toNat d3.2.1) (0 : Int)) < (↑(Int.toNat d3.1) : Int)) (gd ((0 : Nat) + Int.toNat (thr (List.getD d3.2.2.1 (0 : Nat) (0 : Int)) (List.getD x1 (Int.toNat d2.1) (0 : Int)) (List.getD (List.take (Int.toNat d2.1) x1) (Int.toNat d3.2.1) (0 : Int))) < List.length d3.2.2.2.1) (some (Lp.go (((↑(Int.toNat d3.1) : Int), wr IntKind.i64 (d3.2.1 + (1 : Int)), d3.2.2.1, List.set d3.2.2.2.1 ((0 : Nat) + Int.toNat (thr (List.getD d3.2.2.1 (0 : Nat) (0 : Int)) (List.getD x1 (Int.toNat d2.1) (0 : Int)) (List.getD (List.take (Int.toNat d2.1) x1) (Int.toNat d3.2.1) (0 : Int)))) true, ()) : Int × Int × List Int × List Bool × Unit))))))))) else gd (Int.toNat d3.1 = List.length d3.2.2.2.1) (some (Lp.out (Lp.go ((wr IntKind.i64 (d2.1 + (1 : Int)), d3.2.2.1, d3.2.2.2.1, ()) : Int × List Int × List Bool × Unit))))
noncomputable def g67 (x0 : Int × Int × Unit) (x1 : List Int) : Option (List Int × Unit) := gd ((1 : Nat) < (2 : Nat)) (gd ((0 : Int) ≤ x0.2.1 ∧ x0.2.1 ≤ x0.2.1 ∧ x0.2.1 * (1 : Int) ≤ (1099511627776 : Int)) (gd (Int.toNat x0.2.1 = List.length (List.replicate (Int.toNat x0.2.1) false)) (whileO (fun (d2 : Int × List Int × List Bool × Unit) => bif ilt d2.1 (↑(List.length x1) : Int) then gd ((0 : Int) ≤ d2.1 ∧ d2.1 < (↑(List.length x1) : Int)) (gd ((0 : Int) ≤ List.getD x1 (Int.toNat d2.1) (0 : Int) ∧ List.getD x1 (Int.toNat d2.1) (0 : Int) < (↑(List.length d2.2.2.1) : Int)) (gd ((0 : Nat) + Int.toNat (List.getD x1 (Int.toNat d2.1) (0 : Int)) < List.length d2.2.2.1) (gd ((0 : Int) ≤ d2.1 ∧ d2.1 ≤ (↑(List.length x1) : Int)) (whileO (g67_l0 x1 d2) (((↑(List.length d2.2.2.1) : Int), (0 : Int), d2.2.1, List.set d2.2.2.1 ((0 : Nat) + Int.toNat (List.getD x1 (Int.toNat d2.1) (0 : Int))) true, ()) : Int × Int × List Int × List Bool × Unit))))) else gd ((0 : Nat) = (0 : Nat)) (gd (List.length d2.2.2.1 = List.length d2.2.2.1) (whileO (fun (d3 : Int × List Int × List Bool × Unit) => bif ilt d3.1 (↑(List.length d2.2.2.1) : Int) then gd ((0 : Int) ≤ d3.1 ∧ d3.1 < (↑(List.length d3.2.2.1) : Int)) (gd ((0 : Nat) + Int.toNat d3.1 < List.length d3.2.2.1) (bif !List.getD d3.2.2.1 ((0 : Nat) + Int.toNat d3.1) false then gd (List.length d3.2.1 ≤ List.length d3.2.1) (gd ((List.length d3.2.1 + (1 : Nat)) * (8 : Nat) ≤ (1099511627776 : Nat)) (gd (List.length d3.2.1 + (1 : Nat) = List.length (List.take (List.length d3.2.1) d3.2.1 ++ d3.1 :: ([] : List Int))) (gd (List.length d3.2.2.1 = List.length d3.2.2.1) (some (Lp.go ((wr IntKind.i64 (d3.1 + (1 : Int)), List.take (List.length d3.2.1) d3.2.1 ++ d3.1 :: ([] : List Int), d3.2.2.1, ()) : Int × List Int × List Bool × Unit)))))) else gd (List.length d3.2.1 = List.length d3.2.1) (gd (List.length d3.2.2.1 = List.length d3.2.2.1) (some (Lp.go ((wr IntKind.i64 (d3.1 + (1 : Int)), d3.2.1, d3.2.2.1, ()) : Int × List Int × List Bool × Unit)))))) else gd ((0 : Nat) + List.length d3.2.1 ≤ List.length d3.2.1) (some (Lp.out (Lp.out ((List.take (List.length d3.2.1) (List.drop (0 : Nat) d3.2.1), ()) : List Int × Unit))))) (((0 : Int), ([] : List Int), d2.2.2.1, ()) : Int × List Int × List Bool × Unit)))) (((0 : Int), x0.1 :: x0.2.1 :: ([] : List Int), List.replicate (Int.toNat x0.2.1) false, ()) : Int × List Int × List Bool × Unit))))
noncomputable def g67_sh : List LSh := LSh.mk (((2, TV.ref (0) (1 : Nat) (0 : Nat) (0 : Nat)) : Nat × TV) :: ((5, TV.slf (1) (1)) : Nat × TV) :: ((18, TV.v (Ty.int IntKind.i64)) : Nat × TV) :: ([] : List (Nat × TV))) (TB.arr (Ty.int IntKind.i64) false :: TB.arr Ty.bool true :: ([] : List TB)) :: LSh.mk (((2, TV.ref (0) (1 : Nat) (0 : Nat) (0 : Nat)) : Nat × TV) :: ((5, TV.sl (1) (1) (0)) : Nat × TV) :: ((30, TV.v (Ty.int IntKind.i64)) : Nat × TV) :: ([] : List (Nat × TV))) (TB.arr (Ty.int IntKind.i64) false :: TB.arr Ty.bool true :: ([] : List TB)) :: LSh.mk (((10, TV.slf (0) (1)) : Nat × TV) :: ((42, TV.slf (1) (1)) : Nat × TV) :: ((44, TV.v (Ty.int IntKind.i64)) : Nat × TV) :: ([] : List (Nat × TV))) (TB.arr (Ty.int IntKind.i64) true :: TB.arr Ty.bool true :: ([] : List TB)) :: ([] : List LSh)
def freeX (d : Int) (l : List Int) : List Int × Int × Unit := if okH d l = true then (if setsF d l ≤ 0 then (freeF d l, 0, ()) else ([], 5, ())) else ([], 2, ())
noncomputable def con30 : Con := mkC 30 [.d I64, .d LI] [LI, I64] (fun (d : Int) (l : List Int) => [small l]) (fun (d : Int) (l : List Int) => freeX d l)
noncomputable def g30 (x0 : Int) (x1 : List Int) : Option (List Int × Int × Unit) := gd (small x1) (gd ((2 : Nat) ≤ (2 : Nat)) (bif !(handF x0 x1).2.1 then some ((([] : List Int), (2 : Int), ()) : List Int × Int × Unit) else gd ((2 : Nat) ≤ (2 : Nat)) (gd (isD (handF x0 x1).1.1 = true) (gd (∀ (x2 : Int), List.Mem x2 x1 → cardP x2) (gd (List.length x1 ≤ (81 : Nat)) (bif ilt (0 : Int) (setsF (handF x0 x1).1.1 x1) then some ((([] : List Int), (5 : Int), ()) : List Int × Int × Unit) else gd ((2 : Nat) ≤ (2 : Nat)) (gd (isD (handF x0 x1).1.1 = true) (gd ((handF x0 x1).1.2.1 = sizeF (handF x0 x1).1.1) (gd (∀ (x2 : Int), List.Mem x2 x1 → inC (sizeF (handF x0 x1).1.1) x2 = true) (gd (List.length x1 ≤ (81 : Nat)) (some ((freeF (handF x0 x1).1.1 x1, (0 : Int), ()) : List Int × Int × Unit))))))))))))
noncomputable def g30_sh : List LSh := ([] : List LSh)
end Go.Caps

set_option linter.unusedVariables false
set_option linter.unusedSimpArgs false
namespace Go.Caps
open Go Go.Ab Go.Proofs

theorem goal29 : con29.goal Try.prog (spOf [con18]) g29_sh [] lm30 := by
  have e : (∀ (d : Int) (l : List Int), small l → g29 d l = some (capX d l)) = con29.goal Try.prog (spOf [con18]) g29_sh [] lm30 := by kernel_rfl
  rw [← e]
  intro d l hs
  unfold g29 capX setsX
  by_cases h : okH d l = true
  · rw [if_pos h, if_pos h]
    simp [hs, gd_true, ieq_d]
  · rw [if_neg h, if_neg h]
    simp [hs, gd_true, ieq_d]
set_option maxRecDepth 100000 in
theorem ok29 : con29.Ok Try.prog := Con.of_goal mixed (okC ok18 okN) con29 goal29

theorem set_map {f : Nat → Bool} {n t : Nat} : ((List.range n).map f).set t true = (List.range n).map (fun x => f x || decide (t = x)) := by
  apply List.ext_getElem (by simp)
  intro i h1 h2
  simp only [List.getElem_set, List.getElem_map, List.getElem_range]
  by_cases h : t = i <;> simp [h]

theorem int_nat {a : Int} {x : Nat} (h : 0 ≤ a) : decide (a.toNat = x) = decide (a = (x : Int)) := by
  rw [Bool.eq_iff_iff, decide_eq_true_eq, decide_eq_true_eq]; omega

theorem getD_map {f : Nat → Bool} {n c : Nat} (h : c < n) : ((List.range n).map f).getD c false = f c := by
  rw [gd_at (by simpa using h), List.getElem_map, List.getElem_range]

theorem goal67 : con67.goal Try.prog (spOf [con57]) g67_sh [] lm30 := by
  have e : (∀ (k : DeckD) (l : List Int), isD k.1 = true → k.2.1 = sizeF k.1 → (∀ x ∈ l, inC (sizeF k.1) x = true) → l.length ≤ 81 → g67 k l = some (freeF k.1 l, ())) = con67.goal Try.prog (spOf [con57]) g67_sh [] lm30 := by kernel_rfl
  rw [← e]
  rintro ⟨d, s, _⟩ l hd hsz hl h81
  simp only at hd hsz hl
  subst hsz
  have h3 : 3 ≤ sizeF d ∧ sizeF d ≤ 81 := by
    rcases isD_cases hd with rfl | rfl | rfl | rfl <;> decide
  obtain ⟨n, hn⟩ : ∃ n, n = (sizeF d).toNat := ⟨_, rfl⟩
  have hnn : ((n : Nat) : Int) = sizeF d := by omega
  unfold g67
  simp only
  rw [gd_pos (by decide), gd_pos (by omega), gd_pos (by simp)]
  rw [show List.replicate (sizeF d).toNat false = (List.range n).map (fun x : Nat => badN d l 0 (x : Int)) by
    rw [← hn]
    apply List.ext_getElem (by simp)
    intro i h1 h2
    simp [badN]]
  refine whileO_nat (st := fun i : Nat => (((i : Int), [d, sizeF d], (List.range n).map (fun x : Nat => badN d l i (x : Int)), ()) : Int × List Int × List Bool × Unit)) (lo := 0) (hi := l.length) (Nat.zero_le _) ?_ ?_
  · intro i _ hi
    have hA := hl _ (List.getElem_mem hi)
    have hA' := inC_iff.1 hA
    have hw := cast1 (i := i) (by omega)
    refine (cond_t (ilt_iff.2 (by simp only; omega))).trans ?_
    simp only [Int.toNat_natCast, gd_at hi, List.length_map, List.length_range, Nat.zero_add]
    rw [gd_pos (by omega), gd_pos (by omega), gd_pos (by omega), gd_pos (by omega), set_map]
    have e0 : (fun x : Nat => badN d l i (x : Int) || decide ((l[i]).toNat = x)) = (fun x : Nat => badN d l i (x : Int) || (decide (l[i] = (x : Int)) || ((l.take i).take 0).any (fun b => decide (thr d l[i] b = (x : Int))))) := by
      funext x
      rw [int_nat hA'.1]; simp
    rw [e0]
    refine whileO_nat (st := fun j : Nat => (((n : Int), (j : Int), [d, sizeF d], (List.range n).map (fun x : Nat => badN d l i (x : Int) || (decide (l[i] = (x : Int)) || ((l.take i).take j).any (fun b => decide (thr d l[i] b = (x : Int))))), ()) : Int × Int × List Int × List Bool × Unit)) (lo := 0) (hi := (l.take i).length) (Nat.zero_le _) ?_ ?_
    · intro j _ hj
      have hB := hl _ (List.mem_of_mem_take (List.getElem_mem hj))
      have hT := thr_inv hd hA hB
      have hT' := inC_iff.1 hT.2
      have hld : (l.take i).length ≤ 81 := by rw [List.length_take]; omega
      unfold g67_l0
      simp only [Int.toNat_natCast, gd_at hj, gd_at hi, List.getD_cons_zero, List.length_cons, List.length_nil, List.length_map, List.length_range, Nat.zero_add]
      refine (cond_t (ilt_iff.2 (by omega))).trans ?_
      rw [gd_pos (by omega), gd_pos (by omega), gd_pos hd, gd_pos (inC_card hA), gd_pos (inC_card hB), gd_pos (by omega), gd_pos (by omega), cast1 (i := j) (by omega), set_map]
      have e1 : (fun x : Nat => (badN d l i (x : Int) || (decide (l[i] = (x : Int)) || ((l.take i).take j).any (fun b => decide (thr d l[i] b = (x : Int))))) || decide ((thr d l[i] (l.take i)[j]).toNat = x)) = (fun x : Nat => badN d l i (x : Int) || (decide (l[i] = (x : Int)) || ((l.take i).take (j + 1)).any (fun b => decide (thr d l[i] b = (x : Int))))) := by
        funext x
        rw [int_nat hT'.1, take_any hj]
        simp only [Bool.or_assoc]
      rw [e1]
    · unfold g67_l0
      simp only [Int.toNat_natCast, hw]
      refine (cond_f (ilt_false.2 (by omega))).trans ?_
      rw [gd_pos (by simp), List.take_length]
      have e2 : (fun x : Nat => badN d l i (x : Int) || (decide (l[i] = (x : Int)) || (l.take i).any (fun b => decide (thr d l[i] b = (x : Int))))) = (fun x : Nat => badN d l (i + 1) (x : Int)) := by
        funext x
        rw [badN, gd_at hi]
      rw [e2]
  · refine (cond_f (ilt_false.2 (by simp only; omega))).trans ?_
    simp only [List.length_map, List.length_range]
    rw [gd_pos trivial, gd_pos trivial]
    refine whileO_nat (st := fun c : Nat => (((c : Int), flt (fun (x : Nat) => !badN d l l.length (x : Int)) c, (List.range n).map (fun x : Nat => badN d l l.length (x : Int)), ()) : Int × List Int × List Bool × Unit)) (lo := 0) (hi := n) (Nat.zero_le _) ?_ ?_
    · intro c _ hc
      have hfl := flt_len (q := fun (x : Nat) => !badN d l l.length (x : Int)) (n := c)
      refine (cond_t (ilt_iff.2 (by simp only; omega))).trans ?_
      simp only [Int.toNat_natCast, List.length_map, List.length_range, Nat.zero_add, getD_map hc, List.take_length, flt_succ, cast1 (i := c) (by omega)]
      rw [gd_pos (by omega), gd_pos (by omega)]
      cases badN d l l.length (c : Int) with
      | true => simp [gd_true]
      | false =>
        simp only [Bool.not_false, if_true]
        refine (cond_t rfl).trans ?_
        rw [gd_pos (Nat.le_refl _), gd_pos (by omega), gd_pos (by simp)]
        simp [gd_true]
    · refine (cond_f (ilt_false.2 (by simp only; omega))).trans ?_
      simp only [List.drop_zero, List.take_length]
      rw [gd_pos (by omega), hn]
      rfl
set_option maxRecDepth 100000 in
theorem ok67 : con67.Ok Try.prog := Con.of_goal mixed (okC ok57 okN) con67 goal67

theorem hand_ok {d : Int} {l : List Int} (h : okH d l = true) : handF d l = ((d, sizeF d, ()), true, ()) := by
  obtain ⟨hd, hl, hr⟩ := okH_parts h
  have : l.all (inC (sizeF d)) = true := List.all_eq_true.2 hl
  simp [handF, readF, hd, this, hr]
theorem hand_no {d : Int} {l : List Int} (h : ¬ okH d l = true) : (handF d l).2.1 = false := by
  cases hc : (handF d l).2.1 with
  | false => rfl
  | true =>
    exfalso
    apply h
    unfold handF readF at hc
    split at hc
    · rename_i hd
      simp only [Bool.and_eq_true] at hc
      simp only [okH, Bool.and_eq_true]
      exact ⟨⟨hd, hc.1⟩, hc.2⟩
    · simp at hc

theorem goal30 : con30.goal Try.prog (spOf [con58, con59, con67]) g30_sh [] lm30 := by
  have e : (∀ (d : Int) (l : List Int), small l → g30 d l = some (freeX d l)) = con30.goal Try.prog (spOf [con58, con59, con67]) g30_sh [] lm30 := by kernel_rfl
  rw [← e]
  intro d l hs
  unfold g30
  rw [gd_pos hs, gd_pos (by decide)]
  by_cases h : okH d l = true
  · obtain ⟨hd, hl, hr⟩ := okH_parts h
    have h81 := okH_len h
    have hl' : ∀ x, List.Mem x l → cardP x := fun x hx => inC_card (hl x hx)
    have hl2 : ∀ x, List.Mem x l → inC (sizeF d) x = true := hl
    rw [hand_ok h]
    refine (cond_f rfl).trans ?_
    rw [gd_pos (by decide), gd_pos hd, gd_pos hl', gd_pos h81]
    by_cases h0 : setsF d l ≤ 0
    · have hX : freeX d l = (freeF d l, 0, ()) := by rw [freeX, if_pos h, if_pos h0]
      rw [hX]
      refine (cond_f (ilt_false.2 h0)).trans ?_
      rw [gd_pos (by decide), gd_pos hd, gd_pos rfl, gd_pos hl2, gd_pos h81]
    · have hX : freeX d l = ([], 5, ()) := by rw [freeX, if_pos h, if_neg h0]
      rw [hX]
      exact cond_t (ilt_iff.2 (by simp only; omega))
  · have hX : freeX d l = ([], 2, ()) := by rw [freeX, if_neg h]
    rw [hX, hand_no h]
    rfl
set_option maxRecDepth 100000 in
theorem ok30 : con30.Ok Try.prog := Con.of_goal mixed (okC ok58 (okC ok59 (okC ok67 okN))) con30 goal30

theorem bad_iff {d x : Int} {l : List Int} : ∀ n, (!badN d l n x) = true ↔ ∀ i, 0 ≤ i → i < n → (!(decide (l.getD i 0 = x) || (l.take i).any (fun b => decide (thr d (l.getD i 0) b = x)))) = true
  | 0 => by simp [badN]
  | n + 1 => by
    rw [badN, Bool.not_or, Bool.and_eq_true, bad_iff n]
    constructor
    · rintro ⟨h1, h2⟩ i h0 hi
      by_cases h : i = n
      · subst h; exact h2
      · exact h1 i h0 (by omega)
    · intro h
      exact ⟨fun i h0 hi => h i h0 (by omega), h n (Nat.zero_le _) (by omega)⟩

theorem free_len {d : Int} {l : List Int} : (freeF d l).length ≤ 81 := by
  have h1 : (freeF d l).length ≤ (sizeF d).toNat := flt_len
  have h2 := size_le (d := d)
  omega

end Go.Caps
