/- Find and Four: contracts. -/
import Derived.Test.YtibpopddoggnkaaXU
set_option linter.unusedVariables false
set_option linter.unusedSimpArgs false
namespace Go.Signs
open Go Go.Ab Go.Proofs

abbrev Q81 : List TB := [.arr I64 false, .cells [.v I64], .cells [.fn 81 (.cons (.ref 0 1 0 0) (.cons (.ref 1 1 0 0) (.cons (.ref 2 1 0 0) .nil)))]]
def ofL (q : List Int) : QtD := (q.getD 0 0, (q.getD 1 0, q.getD 2 0, q.getD 3 0, q.getD 4 0, ()), ())
def tryF (g : List Int → Bool × List Int) (k : Nat) : Nat → Int → List Int → Bool × List Int
  | 0, s, q => (false, q.set (k + 1) 0)
  | c + 1, s, q => if (g (q.set (k + 1) s)).1 = true then (true, (g (q.set (k + 1) s)).2) else tryF g k c (s + 1) (g (q.set (k + 1) s)).2
def growF (m : Int) : Nat → Int → List Int → Bool × List Int
  | 0, k, q => (false, q)
  | n + 1, k, q => if k = 4 then (valQ (ofL q) && goodF (ofL q), q) else tryF (growF m n (k + 1)) k.toNat (2 ^ m.toNat) 0 q
def preG (n : Nat) (m k : Int) (q : List Int) : Prop := is135 m = true ∧ 0 ≤ k ∧ k ≤ 4 ∧ 4 - k < n ∧ q.length = 5 ∧ q.getD 0 0 = m
noncomputable def con81 (n : Nat) : SCon := mkS 81 [.v I64, .ref 0 1 0 0, .ref 1 1 0 0, .ref 2 1 0 0] Q81 [.v .bool] Q81 (fun (k : Int) (q : List Int) (m : Int) => [preG n m k q]) (fun (k : Int) (q : List Int) (m : Int) => ((growF m n k q).1, (growF m n k q).2, m, ()))
noncomputable def g81 (n : Nat) (x0 : Int) (x1 : List Int) (x2 : Int) : Option (Bool × List Int × Int × Unit) := bif ieq x0 (4 : Int) then gd ((5 : Nat) ≤ List.length x1) (gd (valQ ((List.getD x1 (0 : Nat) (0 : Int), ((List.getD x1 (1 : Nat) (0 : Int), List.getD x1 (2 : Nat) (0 : Int), List.getD x1 (3 : Nat) (0 : Int), List.getD x1 (4 : Nat) (0 : Int), ()) : Int × Int × Int × Int × Unit), ()) : Int × (Int × Int × Int × Int × Unit) × Unit) = true → (5 : Nat) ≤ List.length x1) (gd (valQ ((List.getD x1 (0 : Nat) (0 : Int), ((List.getD x1 (1 : Nat) (0 : Int), List.getD x1 (2 : Nat) (0 : Int), List.getD x1 (3 : Nat) (0 : Int), List.getD x1 (4 : Nat) (0 : Int), ()) : Int × Int × Int × Int × Unit), ()) : Int × (Int × Int × Int × Int × Unit) × Unit) = true → valQ ((List.getD x1 (0 : Nat) (0 : Int), ((List.getD x1 (1 : Nat) (0 : Int), List.getD x1 (2 : Nat) (0 : Int), List.getD x1 (3 : Nat) (0 : Int), List.getD x1 (4 : Nat) (0 : Int), ()) : Int × Int × Int × Int × Unit), ()) : Int × (Int × Int × Int × Int × Unit) × Unit) = true ∧ valQ ((List.getD x1 (0 : Nat) (0 : Int), ((List.getD x1 (1 : Nat) (0 : Int), List.getD x1 (2 : Nat) (0 : Int), List.getD x1 (3 : Nat) (0 : Int), List.getD x1 (4 : Nat) (0 : Int), ()) : Int × Int × Int × Int × Unit), ()) : Int × (Int × Int × Int × Int × Unit) × Unit) = true) (gd (valQ ((List.getD x1 (0 : Nat) (0 : Int), ((List.getD x1 (1 : Nat) (0 : Int), List.getD x1 (2 : Nat) (0 : Int), List.getD x1 (3 : Nat) (0 : Int), List.getD x1 (4 : Nat) (0 : Int), ()) : Int × Int × Int × Int × Unit), ()) : Int × (Int × Int × Int × Int × Unit) × Unit) = true → valQ ((List.getD x1 (0 : Nat) (0 : Int), ((List.getD x1 (1 : Nat) (0 : Int), List.getD x1 (2 : Nat) (0 : Int), List.getD x1 (3 : Nat) (0 : Int), List.getD x1 (4 : Nat) (0 : Int), ()) : Int × Int × Int × Int × Unit), ()) : Int × (Int × Int × Int × Int × Unit) × Unit) = true) (some ((bif valQ ((List.getD x1 (0 : Nat) (0 : Int), ((List.getD x1 (1 : Nat) (0 : Int), List.getD x1 (2 : Nat) (0 : Int), List.getD x1 (3 : Nat) (0 : Int), List.getD x1 (4 : Nat) (0 : Int), ()) : Int × Int × Int × Int × Unit), ()) : Int × (Int × Int × Int × Int × Unit) × Unit) then goodF ((List.getD x1 (0 : Nat) (0 : Int), ((List.getD x1 (1 : Nat) (0 : Int), List.getD x1 (2 : Nat) (0 : Int), List.getD x1 (3 : Nat) (0 : Int), List.getD x1 (4 : Nat) (0 : Int), ()) : Int × Int × Int × Int × Unit), ()) : Int × (Int × Int × Int × Int × Unit) × Unit) else false, x1, x2, ()) : Bool × List Int × Int × Unit))))) else gd ((0 : Int) ≤ x2) (whileO (fun (d4 : Int × List Int × Int × Unit) => bif ilt d4.1 (ishl IntKind.i64 (1 : Int) x2) then gd ((0 : Int) ≤ x0 ∧ x0 < (4 : Int)) (gd ((1 : Nat) + Int.toNat x0 * (1 : Nat) < List.length d4.2.1) (gd (preG n d4.2.2.1 (wr IntKind.i64 (x0 + (1 : Int))) (List.set d4.2.1 ((1 : Nat) + Int.toNat x0 * (1 : Nat)) d4.1)) (bif (growF d4.2.2.1 n (wr IntKind.i64 (x0 + (1 : Int))) (List.set d4.2.1 ((1 : Nat) + Int.toNat x0 * (1 : Nat)) d4.1)).1 then some (Lp.out ((true, (growF d4.2.2.1 n (wr IntKind.i64 (x0 + (1 : Int))) (List.set d4.2.1 ((1 : Nat) + Int.toNat x0 * (1 : Nat)) d4.1)).2, d4.2.2.1, ()) : Bool × List Int × Int × Unit)) else some (Lp.go ((wr IntKind.i64 (d4.1 + (1 : Int)), (growF d4.2.2.1 n (wr IntKind.i64 (x0 + (1 : Int))) (List.set d4.2.1 ((1 : Nat) + Int.toNat x0 * (1 : Nat)) d4.1)).2, d4.2.2.1, ()) : Int × List Int × Int × Unit))))) else gd ((0 : Int) ≤ x0 ∧ x0 < (4 : Int)) (gd ((1 : Nat) + Int.toNat x0 * (1 : Nat) < List.length d4.2.1) (some (Lp.out ((false, List.set d4.2.1 ((1 : Nat) + Int.toNat x0 * (1 : Nat)) (0 : Int), d4.2.2.1, ()) : Bool × List Int × Int × Unit))))) (((0 : Int), x1, x2, ()) : Int × List Int × Int × Unit))
noncomputable def g81_sh : List LSh := LSh.mk3 (((1, TV.ref (0) (1 : Nat) (0 : Nat) (0 : Nat)) : Nat × TV) :: ((3, TV.ref (2) (1 : Nat) (0 : Nat) (0 : Nat)) : Nat × TV) :: ((17, TV.v (Ty.int IntKind.i64)) : Nat × TV) :: ([] : List (Nat × TV))) (TB.arr (Ty.int IntKind.i64) false :: TB.cells (TV.v (Ty.int IntKind.i64) :: ([] : List TV)) :: TB.cells (TV.fn (81) (TV.cons (TV.ref (0) (1 : Nat) (0 : Nat) (0 : Nat)) (TV.cons (TV.ref (1) (1 : Nat) (0 : Nat) (0 : Nat)) (TV.cons (TV.ref (2) (1 : Nat) (0 : Nat) (0 : Nat)) TV.nil))) :: ([] : List TV)) :: ([] : List TB)) (3) :: ([] : List LSh)
abbrev G82 (j : Nat) : List TB := [.cells [.slf j 4], .arr I64 false, .cells [.fn 82 (.cons (.ref 0 1 0 0) (.cons (.ref 1 1 0 0) (.cons (.ref 2 1 0 0) .nil)))]]
abbrev Q82 : List TB := [.cells [.slf 3 4], .arr I64 false, .cells [.fn 82 (.cons (.ref 0 1 0 0) (.cons (.ref 1 1 0 0) (.cons (.ref 2 1 0 0) .nil)))], .arr A4 true]
abbrev R82 : List TB := [.cells [.slf 4 4], .arr I64 false, .cells [.fn 82 (.cons (.ref 0 1 0 0) (.cons (.ref 1 1 0 0) (.cons (.ref 2 1 0 0) .nil)))], .dead, .arr A4 true]
def four4 (l : List Int) : A4D := (l.getD 0 0, l.getD 1 0, l.getD 2 0, l.getD 3 0, ())
def loop4 (g : Int → Int → List Int → List A4D → List Int × List A4D) (k : Nat) (left : Int) : Nat → Int → List Int → List A4D → List Int × List A4D
  | 0, x, l, out => (l, out)
  | c + 1, x, l, out => if x * x ≤ left then loop4 g k left c (x + 2) (g x (left - x * x) (l.set k x) out).1 (g x (left - x * x) (l.set k x) out).2 else (l, out)
def grow4 : Nat → Int → Int → Int → List Int → List A4D → List Int × List A4D
  | 0, k, least, left, l, out => (l, out)
  | n + 1, k, least, left, l, out => if k = 4 then (l, if left = 0 then out ++ [four4 l] else out) else loop4 (grow4 n (k + 1)) k.toNat left 21 least l out
def pre4 (n : Nat) (k least left : Int) (l : List Int) (out : List A4D) : Prop := 0 ≤ k ∧ k ≤ 4 ∧ 4 - k < n ∧ 1 ≤ least ∧ least ≤ 50 ∧ 0 ≤ left ∧ left ≤ 400 ∧ l.length = 4 ∧ out.length + 21 ^ (4 - k).toNat ≤ 194481
noncomputable def con82 (n : Nat) : SCon := mkS 82 [.v I64, .v I64, .v I64, .ref 0 1 0 0, .ref 1 1 0 0, .ref 2 1 0 0] Q82 [] R82 (fun (k least left : Int) (l : List Int) (out : List A4D) => [pre4 n k least left l out]) (fun (k least left : Int) (l : List Int) (out : List A4D) => ((grow4 n k least left l out).1, (grow4 n k least left l out).2, ()))
noncomputable def g82 (n : Nat) (x0 x1 x2 : Int) (x3 : List Int) (x4 : List (Int × Int × Int × Int × Unit)) : Option (List Int × List (Int × Int × Int × Int × Unit) × Unit) := bif ieq x0 (4 : Int) then bif ieq x2 (0 : Int) then gd ((4 : Nat) ≤ List.length x3) (gd (List.length x4 ≤ List.length x4) (gd ((List.length x4 + (1 : Nat)) * (32 : Nat) ≤ (1099511627776 : Nat)) (gd (List.length x4 + (1 : Nat) = List.length (List.take (List.length x4) x4 ++ ((List.getD x3 (0 : Nat) (0 : Int), List.getD x3 (1 : Nat) (0 : Int), List.getD x3 (2 : Nat) (0 : Int), List.getD x3 (3 : Nat) (0 : Int), ()) : Int × Int × Int × Int × Unit) :: ([] : List (Int × Int × Int × Int × Unit)))) (some ((x3, List.take (List.length x4) x4 ++ ((List.getD x3 (0 : Nat) (0 : Int), List.getD x3 (1 : Nat) (0 : Int), List.getD x3 (2 : Nat) (0 : Int), List.getD x3 (3 : Nat) (0 : Int), ()) : Int × Int × Int × Int × Unit) :: ([] : List (Int × Int × Int × Int × Unit)), ()) : List Int × List (Int × Int × Int × Int × Unit) × Unit))))) else gd (List.length x4 = List.length x4) (some ((x3, x4, ()) : List Int × List (Int × Int × Int × Int × Unit) × Unit)) else gd (List.length x4 = List.length x4) (whileO (fun (d6 : Int × List Int × List (Int × Int × Int × Int × Unit) × Unit) => bif ile (wr IntKind.i64 (d6.1 * d6.1)) x2 then gd ((0 : Int) ≤ x0 ∧ x0 < (4 : Int)) (gd ((0 : Nat) + Int.toNat x0 * (1 : Nat) < List.length d6.2.1) (gd (List.length d6.2.2.1 = List.length d6.2.2.1) (gd (pre4 n (wr IntKind.i64 (x0 + (1 : Int))) d6.1 (wr IntKind.i64 (x2 - wr IntKind.i64 (d6.1 * d6.1))) (List.set d6.2.1 ((0 : Nat) + Int.toNat x0 * (1 : Nat)) d6.1) d6.2.2.1) (gd (List.length (grow4 n (wr IntKind.i64 (x0 + (1 : Int))) d6.1 (wr IntKind.i64 (x2 - wr IntKind.i64 (d6.1 * d6.1))) (List.set d6.2.1 ((0 : Nat) + Int.toNat x0 * (1 : Nat)) d6.1) d6.2.2.1).2 = List.length (grow4 n (wr IntKind.i64 (x0 + (1 : Int))) d6.1 (wr IntKind.i64 (x2 - wr IntKind.i64 (d6.1 * d6.1))) (List.set d6.2.1 ((0 : Nat) + Int.toNat x0 * (1 : Nat)) d6.1) d6.2.2.1).2) (some (Lp.go ((wr IntKind.i64 (d6.1 + (2 : Int)), (grow4 n (wr IntKind.i64 (x0 + (1 : Int))) d6.1 (wr IntKind.i64 (x2 - wr IntKind.i64 (d6.1 * d6.1))) (List.set d6.2.1 ((0 : Nat) + Int.toNat x0 * (1 : Nat)) d6.1) d6.2.2.1).1, (grow4 n (wr IntKind.i64 (x0 + (1 : Int))) d6.1 (wr IntKind.i64 (x2 - wr IntKind.i64 (d6.1 * d6.1))) (List.set d6.2.1 ((0 : Nat) + Int.toNat x0 * (1 : Nat)) d6.1) d6.2.2.1).2, ()) : Int × List Int × List (Int × Int × Int × Int × Unit) × Unit))))))) else gd (List.length d6.2.2.1 = List.length d6.2.2.1) (some (Lp.out ((d6.2.1, d6.2.2.1, ()) : List Int × List (Int × Int × Int × Int × Unit) × Unit)))) ((x1, x3, x4, ()) : Int × List Int × List (Int × Int × Int × Int × Unit) × Unit))
noncomputable def g82_sh : List LSh := LSh.mk3 (((4, TV.ref (1) (1 : Nat) (0 : Nat) (0 : Nat)) : Nat × TV) :: ((5, TV.ref (2) (1 : Nat) (0 : Nat) (0 : Nat)) : Nat × TV) :: ((9, TV.v (Ty.int IntKind.i64)) : Nat × TV) :: ([] : List (Nat × TV))) (TB.cells (TV.slf (4) (4) :: ([] : List TV)) :: TB.arr (Ty.int IntKind.i64) false :: TB.cells (TV.fn (82) (TV.cons (TV.ref (0) (1 : Nat) (0 : Nat) (0 : Nat)) (TV.cons (TV.ref (1) (1 : Nat) (0 : Nat) (0 : Nat)) (TV.cons (TV.ref (2) (1 : Nat) (0 : Nat) (0 : Nat)) TV.nil))) :: ([] : List TV)) :: TB.dead :: TB.arr (Ty.prod (Ty.int IntKind.i64) (Ty.prod (Ty.int IntKind.i64) (Ty.prod (Ty.int IntKind.i64) (Ty.prod (Ty.int IntKind.i64) Ty.unit)))) true :: ([] : List TB)) (4) :: ([] : List LSh)
def findF (m : Int) : A4D × Int × Unit := if is135 m = true then (if (growF m 5 0 [m, 0, 0, 0, 0]).1 = true then ((ofL (growF m 5 0 [m, 0, 0, 0, 0]).2).2.1, 0, ()) else ((0, 0, 0, 0, ()), 4, ())) else ((0, 0, 0, 0, ()), 2, ())
noncomputable def con46 : Con := mkC 46 [.d I64] [A4, I64] (fun (m : Int) => []) (fun (m : Int) => findF m)
noncomputable def g46 (x0 : Int) : Option ((Int × Int × Int × Int × Unit) × Int × Unit) := gd ((5 : Nat) ≤ (5 : Nat)) (gd ((5 : Nat) ≤ (5 : Nat)) (bif !valQ ((x0, (((0 : Int), (0 : Int), (0 : Int), (0 : Int), ()) : Int × Int × Int × Int × Unit), ()) : Int × (Int × Int × Int × Int × Unit) × Unit) then gd ((4 : Nat) ≤ (4 : Nat)) (gd ((4 : Nat) ≤ (4 : Nat)) (some (((((0 : Int), (0 : Int), (0 : Int), (0 : Int), ()) : Int × Int × Int × Int × Unit), (2 : Int), ()) : (Int × Int × Int × Int × Unit) × Int × Unit))) else gd (preG (5 : Nat) x0 (0 : Int) (x0 :: (0 : Int) :: (0 : Int) :: (0 : Int) :: (0 : Int) :: ([] : List Int))) (bif !(growF x0 (5 : Nat) (0 : Int) (x0 :: (0 : Int) :: (0 : Int) :: (0 : Int) :: (0 : Int) :: ([] : List Int))).1 then gd ((4 : Nat) ≤ (4 : Nat)) (gd ((4 : Nat) ≤ (4 : Nat)) (some (((((0 : Int), (0 : Int), (0 : Int), (0 : Int), ()) : Int × Int × Int × Int × Unit), (4 : Int), ()) : (Int × Int × Int × Int × Unit) × Int × Unit))) else gd ((5 : Nat) ≤ List.length (growF x0 (5 : Nat) (0 : Int) (x0 :: (0 : Int) :: (0 : Int) :: (0 : Int) :: (0 : Int) :: ([] : List Int))).2) (gd ((4 : Nat) ≤ (4 : Nat)) (gd ((4 : Nat) ≤ (4 : Nat)) (some ((((List.getD (growF x0 (5 : Nat) (0 : Int) (x0 :: (0 : Int) :: (0 : Int) :: (0 : Int) :: (0 : Int) :: ([] : List Int))).2 (1 : Nat) (0 : Int), List.getD (growF x0 (5 : Nat) (0 : Int) (x0 :: (0 : Int) :: (0 : Int) :: (0 : Int) :: (0 : Int) :: ([] : List Int))).2 (2 : Nat) (0 : Int), List.getD (growF x0 (5 : Nat) (0 : Int) (x0 :: (0 : Int) :: (0 : Int) :: (0 : Int) :: (0 : Int) :: ([] : List Int))).2 (3 : Nat) (0 : Int), List.getD (growF x0 (5 : Nat) (0 : Int) (x0 :: (0 : Int) :: (0 : Int) :: (0 : Int) :: (0 : Int) :: ([] : List Int))).2 (4 : Nat) (0 : Int), ()) : Int × Int × Int × Int × Unit), (0 : Int), ()) : (Int × Int × Int × Int × Unit) × Int × Unit)))))))
noncomputable def g46_sh : List LSh := ([] : List LSh)
def fourF (n : Int) : List A4D × Int × Unit := if 1 ≤ n ∧ n ≤ 100 then ((grow4 5 0 1 (4 * n) [0, 0, 0, 0] []).2, 0, ()) else ([], 2, ())
noncomputable def con47 : Con := mkC 47 [.d I64] [.slice A4, I64] (fun (n : Int) => []) (fun (n : Int) => fourF n)
noncomputable def g47 (x0 : Int) : Option (List (Int × Int × Int × Int × Unit) × Int × Unit) := gd ((!ilt x0 (1 : Int)) = true → (!ilt x0 (1 : Int)) = true) (gd (ilt x0 (1 : Int) = false → (!ilt x0 (1 : Int)) = true) (bif bif ilt x0 (1 : Int) then true else ilt (100 : Int) x0 then some ((([] : List (Int × Int × Int × Int × Unit)), (2 : Int), ()) : List (Int × Int × Int × Int × Unit) × Int × Unit) else gd ((0 : Nat) = (0 : Nat)) (gd (pre4 (5 : Nat) (0 : Int) (1 : Int) (wr IntKind.i64 ((4 : Int) * x0)) ((0 : Int) :: (0 : Int) :: (0 : Int) :: (0 : Int) :: ([] : List Int)) ([] : List (Int × Int × Int × Int × Unit))) (gd ((0 : Nat) + List.length (grow4 (5 : Nat) (0 : Int) (1 : Int) (wr IntKind.i64 ((4 : Int) * x0)) ((0 : Int) :: (0 : Int) :: (0 : Int) :: (0 : Int) :: ([] : List Int)) ([] : List (Int × Int × Int × Int × Unit))).2 ≤ List.length (grow4 (5 : Nat) (0 : Int) (1 : Int) (wr IntKind.i64 ((4 : Int) * x0)) ((0 : Int) :: (0 : Int) :: (0 : Int) :: (0 : Int) :: ([] : List Int)) ([] : List (Int × Int × Int × Int × Unit))).2) (some ((List.take (List.length (grow4 (5 : Nat) (0 : Int) (1 : Int) (wr IntKind.i64 ((4 : Int) * x0)) ((0 : Int) :: (0 : Int) :: (0 : Int) :: (0 : Int) :: ([] : List Int)) ([] : List (Int × Int × Int × Int × Unit))).2) (List.drop (0 : Nat) (grow4 (5 : Nat) (0 : Int) (1 : Int) (wr IntKind.i64 ((4 : Int) * x0)) ((0 : Int) :: (0 : Int) :: (0 : Int) :: (0 : Int) :: ([] : List Int)) ([] : List (Int × Int × Int × Int × Unit))).2), (0 : Int), ()) : List (Int × Int × Int × Int × Unit) × Int × Unit))))))
noncomputable def g47_sh : List LSh := ([] : List LSh)

def dig (m : Int) (n : Nat) (i : Nat) : Int := ((n / 2 ^ ((3 - i) * m.toNat) % 2 ^ m.toNat : Nat) : Int)
def digs (m : Int) (n : Nat) : A4D := (dig m n 0, dig m n 1, dig m n 2, dig m n 3, ())
def goodN (m : Int) (n : Nat) : Bool := valQ (m, digs m n, ()) && goodF (m, digs m n, ())
def seekN (m : Int) : Nat → Nat → Option Nat
  | 0, _ => none
  | c + 1, n => if goodN m n = true then some n else seekN m c (n + 1)
def findR (m : Int) : A4D × Int × Unit := match seekN m (2 ^ (4 * m.toNat)) 0 with
  | some n => (digs m n, 0, ())
  | none => ((0, 0, 0, 0, ()), 4, ())
noncomputable def con48 : Con := mkC 48 [.d I64] [A4, I64] (fun (m : Int) => [is135 m = true]) (fun (m : Int) => findR m)
noncomputable def g48_l0 (x0 : Int) (d1 : Int × List Int × Unit) (d2 : Bool × Int × List Int × List Int × Unit) : Option (Lp (Bool × Int × List Int × List Int × Unit) (Lp (Int × List Int × Unit) ((Int × Int × Int × Int × Unit) × Int × Unit))) := bif ilt d2.2.1 (4 : Int) then gd ((0 : Int) ≤ wr IntKind.i64 (wr IntKind.i64 ((3 : Int) - d2.2.1) * x0)) (gd ((0 : Int) ≤ x0) (gd ((0 : Int) ≤ d2.2.1 ∧ d2.2.1 < (4 : Int)) (gd ((0 : Nat) + Int.toNat d2.2.1 * (1 : Nat) < List.length d2.2.2.2.1) (gd (d2.1 = true → d2.1 = true ∧ (0 : Int) ≤ d2.2.1 ∧ d2.2.1 < (4 : Int)) (gd (d2.1 = true → d2.1 = true ∧ (0 : Nat) + Int.toNat d2.2.1 * (1 : Nat) < List.length (List.set d2.2.2.2.1 ((0 : Nat) + Int.toNat d2.2.1 * (1 : Nat)) (iand IntKind.i64 (ishr IntKind.i64 d1.1 (wr IntKind.i64 (wr IntKind.i64 ((3 : Int) - d2.2.1) * x0))) (wr IntKind.i64 (ishl IntKind.i64 (1 : Int) x0 - (1 : Int)))))) (gd (d2.1 = true → d2.1 = true ∧ d2.1 = true) (gd (d2.1 = true → d2.1 = true) (some (Lp.go ((bif d2.1 then is135 x0 && seqB x0 (List.getD (List.set d2.2.2.2.1 ((0 : Nat) + Int.toNat d2.2.1 * (1 : Nat)) (iand IntKind.i64 (ishr IntKind.i64 d1.1 (wr IntKind.i64 (wr IntKind.i64 ((3 : Int) - d2.2.1) * x0))) (wr IntKind.i64 (ishl IntKind.i64 (1 : Int) x0 - (1 : Int))))) ((0 : Nat) + Int.toNat d2.2.1 * (1 : Nat)) (0 : Int)) else false, wr IntKind.i64 (d2.2.1 + (1 : Int)), d2.2.2.1, List.set d2.2.2.2.1 ((0 : Nat) + Int.toNat d2.2.1 * (1 : Nat)) (iand IntKind.i64 (ishr IntKind.i64 d1.1 (wr IntKind.i64 (wr IntKind.i64 ((3 : Int) - d2.2.1) * x0))) (wr IntKind.i64 (ishl IntKind.i64 (1 : Int) x0 - (1 : Int)))), ()) : Bool × Int × List Int × List Int × Unit)))))))))) else gd (d2.1 = true → (4 : Nat) ≤ List.length d2.2.2.2.1) (gd (d2.1 = true → d2.1 = true ∧ d2.1 = true ∧ valQ ((x0, ((List.getD d2.2.2.2.1 (0 : Nat) (0 : Int), List.getD d2.2.2.2.1 (1 : Nat) (0 : Int), List.getD d2.2.2.2.1 (2 : Nat) (0 : Int), List.getD d2.2.2.2.1 (3 : Nat) (0 : Int), ()) : Int × Int × Int × Int × Unit), ()) : Int × (Int × Int × Int × Int × Unit) × Unit) = true) (gd (d2.1 = true → d2.1 = true) (bif bif d2.1 then goodF ((x0, ((List.getD d2.2.2.2.1 (0 : Nat) (0 : Int), List.getD d2.2.2.2.1 (1 : Nat) (0 : Int), List.getD d2.2.2.2.1 (2 : Nat) (0 : Int), List.getD d2.2.2.2.1 (3 : Nat) (0 : Int), ()) : Int × Int × Int × Int × Unit), ()) : Int × (Int × Int × Int × Int × Unit) × Unit) else false then gd ((4 : Nat) ≤ List.length d2.2.2.2.1) (gd ((4 : Nat) ≤ List.length d2.2.2.1) (gd ((4 : Nat) ≤ List.length (setMany d2.2.2.1 (0 : Nat) (List.getD d2.2.2.2.1 (0 : Nat) (0 : Int) :: List.getD d2.2.2.2.1 (1 : Nat) (0 : Int) :: List.getD d2.2.2.2.1 (2 : Nat) (0 : Int) :: List.getD d2.2.2.2.1 (3 : Nat) (0 : Int) :: ([] : List Int)))) (some (Lp.out (Lp.out ((((List.getD (setMany d2.2.2.1 (0 : Nat) (List.getD d2.2.2.2.1 (0 : Nat) (0 : Int) :: List.getD d2.2.2.2.1 (1 : Nat) (0 : Int) :: List.getD d2.2.2.2.1 (2 : Nat) (0 : Int) :: List.getD d2.2.2.2.1 (3 : Nat) (0 : Int) :: ([] : List Int))) (0 : Nat) (0 : Int), List.getD (setMany d2.2.2.1 (0 : Nat) (List.getD d2.2.2.2.1 (0 : Nat) (0 : Int) :: List.getD d2.2.2.2.1 (1 : Nat) (0 : Int) :: List.getD d2.2.2.2.1 (2 : Nat) (0 : Int) :: List.getD d2.2.2.2.1 (3 : Nat) (0 : Int) :: ([] : List Int))) (1 : Nat) (0 : Int), List.getD (setMany d2.2.2.1 (0 : Nat) (List.getD d2.2.2.2.1 (0 : Nat) (0 : Int) :: List.getD d2.2.2.2.1 (1 : Nat) (0 : Int) :: List.getD d2.2.2.2.1 (2 : Nat) (0 : Int) :: List.getD d2.2.2.2.1 (3 : Nat) (0 : Int) :: ([] : List Int))) (2 : Nat) (0 : Int), List.getD (setMany d2.2.2.1 (0 : Nat) (List.getD d2.2.2.2.1 (0 : Nat) (0 : Int) :: List.getD d2.2.2.2.1 (1 : Nat) (0 : Int) :: List.getD d2.2.2.2.1 (2 : Nat) (0 : Int) :: List.getD d2.2.2.2.1 (3 : Nat) (0 : Int) :: ([] : List Int))) (3 : Nat) (0 : Int), ()) : Int × Int × Int × Int × Unit), (0 : Int), ()) : (Int × Int × Int × Int × Unit) × Int × Unit)))))) else some (Lp.out (Lp.go ((wr IntKind.i64 (d1.1 + (1 : Int)), d2.2.2.1, ()) : Int × List Int × Unit))))))
noncomputable def g48 (x0 : Int) : Option ((Int × Int × Int × Int × Unit) × Int × Unit) := gd ((0 : Int) ≤ wr IntKind.i64 ((4 : Int) * x0)) (whileO (fun (d1 : Int × List Int × Unit) => bif ilt d1.1 (ishl IntKind.i64 (1 : Int) (wr IntKind.i64 ((4 : Int) * x0))) then whileO (g48_l0 x0 d1) ((true, (0 : Int), d1.2.1, (0 : Int) :: (0 : Int) :: (0 : Int) :: (0 : Int) :: ([] : List Int), ()) : Bool × Int × List Int × List Int × Unit) else gd ((4 : Nat) ≤ List.length d1.2.1) (gd ((4 : Nat) ≤ List.length (setMany d1.2.1 (0 : Nat) ((0 : Int) :: (0 : Int) :: (0 : Int) :: (0 : Int) :: ([] : List Int)))) (some (Lp.out ((((List.getD (setMany d1.2.1 (0 : Nat) ((0 : Int) :: (0 : Int) :: (0 : Int) :: (0 : Int) :: ([] : List Int))) (0 : Nat) (0 : Int), List.getD (setMany d1.2.1 (0 : Nat) ((0 : Int) :: (0 : Int) :: (0 : Int) :: (0 : Int) :: ([] : List Int))) (1 : Nat) (0 : Int), List.getD (setMany d1.2.1 (0 : Nat) ((0 : Int) :: (0 : Int) :: (0 : Int) :: (0 : Int) :: ([] : List Int))) (2 : Nat) (0 : Int), List.getD (setMany d1.2.1 (0 : Nat) ((0 : Int) :: (0 : Int) :: (0 : Int) :: (0 : Int) :: ([] : List Int))) (3 : Nat) (0 : Int), ()) : Int × Int × Int × Int × Unit), (4 : Int), ()) : (Int × Int × Int × Int × Unit) × Int × Unit))))) (((0 : Int), (0 : Int) :: (0 : Int) :: (0 : Int) :: (0 : Int) :: ([] : List Int), ()) : Int × List Int × Unit))
noncomputable def g48_sh : List LSh := LSh.mk (((2, TV.ref (0) (1 : Nat) (0 : Nat) (0 : Nat)) : Nat × TV) :: ((11, TV.v (Ty.int IntKind.i64)) : Nat × TV) :: ([] : List (Nat × TV))) (TB.arr (Ty.int IntKind.i64) false :: ([] : List TB)) :: LSh.mk (((2, TV.ref (0) (1 : Nat) (0 : Nat) (0 : Nat)) : Nat × TV) :: ((5, TV.ref (1) (1 : Nat) (0 : Nat) (0 : Nat)) : Nat × TV) :: ((6, TV.v Ty.bool) : Nat × TV) :: ((14, TV.v (Ty.int IntKind.i64)) : Nat × TV) :: ([] : List (Nat × TV))) (TB.arr (Ty.int IntKind.i64) false :: TB.arr (Ty.int IntKind.i64) false :: ([] : List TB)) :: ([] : List LSh)
def eqFour (a b : List A4D) : Bool := decide (a = b)
noncomputable def con49 : Con := mkC 49 [.d (.slice A4), .d (.slice A4)] [.bool] (fun (a b : List A4D) => [a.length ≤ 1000000000]) (fun (a b : List A4D) => (eqFour a b, ()))
noncomputable def g49 (x0 x1 : List (Int × Int × Int × Int × Unit)) : Option (Bool × Unit) := bif !ieq (↑(List.length x0) : Int) (↑(List.length x1) : Int) then some ((false, ()) : Bool × Unit) else whileO (fun (d2 : Int × Unit) => bif ilt d2.1 (↑(List.length x0) : Int) then gd ((0 : Int) ≤ d2.1 ∧ d2.1 < (↑(List.length x0) : Int)) (gd ((0 : Int) ≤ d2.1 ∧ d2.1 < (↑(List.length x1) : Int)) (bif !deq (Ty.prod (Ty.int IntKind.i64) (Ty.prod (Ty.int IntKind.i64) (Ty.prod (Ty.int IntKind.i64) (Ty.prod (Ty.int IntKind.i64) Ty.unit)))) (List.getD x0 (Int.toNat d2.1) (((0 : Int), (0 : Int), (0 : Int), (0 : Int), ()) : Int × Int × Int × Int × Unit) : Int × Int × Int × Int × Unit) (List.getD x1 (Int.toNat d2.1) (((0 : Int), (0 : Int), (0 : Int), (0 : Int), ()) : Int × Int × Int × Int × Unit) : Int × Int × Int × Int × Unit) then some (Lp.out ((false, ()) : Bool × Unit)) else some (Lp.go ((wr IntKind.i64 (d2.1 + (1 : Int)), ()) : Int × Unit)))) else some (Lp.out ((true, ()) : Bool × Unit))) (((0 : Int), ()) : Int × Unit)
noncomputable def g49_sh : List LSh := LSh.mk (((13, TV.v (Ty.int IntKind.i64)) : Nat × TV) :: ([] : List (Nat × TV))) ([] : List TB) :: ([] : List LSh)
def loopR (f : Int → List A4D → List A4D) : Nat → Int → List A4D → List A4D
  | 0, _, out => out
  | c + 1, x, out => loopR f c (x + 2) (f x out)
def sumsq (p : List Int) : Int := p.foldl (fun s x => s + x * x) 0
def cnt (x : Int) : Nat := ((21 - x) / 2).toNat
def refG (n : Int) : Nat → List Int → Int → List A4D → List A4D
  | 0, p, least, out => if sumsq p = 4 * n then out ++ [four4 p] else out
  | j + 1, p, least, out => loopR (fun x o => refG n j (p ++ [x]) x o) (cnt least) least out
def fourR (n : Int) : List A4D := refG n 4 [] 1 []
noncomputable def con50 : Con := mkC 50 [.d I64] [.slice A4] (fun (n : Int) => [1 ≤ n ∧ n ≤ 100]) (fun (n : Int) => (fourR n, ()))
noncomputable def g50_l0 (x0 : Int) (d1 d2 d3 d4 : Int × List (Int × Int × Int × Int × Unit) × Unit) : Option (Lp (Int × List (Int × Int × Int × Int × Unit) × Unit) (Lp (Int × List (Int × Int × Int × Int × Unit) × Unit) (Lp (Int × List (Int × Int × Int × Int × Unit) × Unit) (Lp (Int × List (Int × Int × Int × Int × Unit) × Unit) (List (Int × Int × Int × Int × Unit) × Unit))))) := bif ile d4.1 (19 : Int) then bif ieq (wr IntKind.i64 (wr IntKind.i64 (wr IntKind.i64 (wr IntKind.i64 (d1.1 * d1.1) + wr IntKind.i64 (d2.1 * d2.1)) + wr IntKind.i64 (d3.1 * d3.1)) + wr IntKind.i64 (d4.1 * d4.1))) (wr IntKind.i64 ((4 : Int) * x0)) then gd (List.length d4.2.1 ≤ List.length d4.2.1) (gd ((List.length d4.2.1 + (1 : Nat)) * (32 : Nat) ≤ (1099511627776 : Nat)) (gd (List.length d4.2.1 + (1 : Nat) = List.length (List.take (List.length d4.2.1) d4.2.1 ++ ((d1.1, d2.1, d3.1, d4.1, ()) : Int × Int × Int × Int × Unit) :: ([] : List (Int × Int × Int × Int × Unit)))) (some (Lp.go ((wr IntKind.i64 (d4.1 + (2 : Int)), List.take (List.length d4.2.1) d4.2.1 ++ ((d1.1, d2.1, d3.1, d4.1, ()) : Int × Int × Int × Int × Unit) :: ([] : List (Int × Int × Int × Int × Unit)), ()) : Int × List (Int × Int × Int × Int × Unit) × Unit))))) else gd (List.length d4.2.1 = List.length d4.2.1) (some (Lp.go ((wr IntKind.i64 (d4.1 + (2 : Int)), d4.2.1, ()) : Int × List (Int × Int × Int × Int × Unit) × Unit))) else gd (List.length d4.2.1 = List.length d4.2.1) (some (Lp.out (Lp.go ((wr IntKind.i64 (d3.1 + (2 : Int)), d4.2.1, ()) : Int × List (Int × Int × Int × Int × Unit) × Unit))))
noncomputable def g50_l1 (x0 : Int) (d1 d2 d3 : Int × List (Int × Int × Int × Int × Unit) × Unit) : Option (Lp (Int × List (Int × Int × Int × Int × Unit) × Unit) (Lp (Int × List (Int × Int × Int × Int × Unit) × Unit) (Lp (Int × List (Int × Int × Int × Int × Unit) × Unit) (List (Int × Int × Int × Int × Unit) × Unit)))) := bif ile d3.1 (19 : Int) then gd (List.length d3.2.1 = List.length d3.2.1) (whileO (g50_l0 x0 d1 d2 d3) ((d3.1, d3.2.1, ()) : Int × List (Int × Int × Int × Int × Unit) × Unit)) else gd (List.length d3.2.1 = List.length d3.2.1) (some (Lp.out (Lp.go ((wr IntKind.i64 (d2.1 + (2 : Int)), d3.2.1, ()) : Int × List (Int × Int × Int × Int × Unit) × Unit))))
noncomputable def g50_l2 (x0 : Int) (d1 d2 : Int × List (Int × Int × Int × Int × Unit) × Unit) : Option (Lp (Int × List (Int × Int × Int × Int × Unit) × Unit) (Lp (Int × List (Int × Int × Int × Int × Unit) × Unit) (List (Int × Int × Int × Int × Unit) × Unit))) := bif ile d2.1 (19 : Int) then gd (List.length d2.2.1 = List.length d2.2.1) (whileO (g50_l1 x0 d1 d2) ((d2.1, d2.2.1, ()) : Int × List (Int × Int × Int × Int × Unit) × Unit)) else gd (List.length d2.2.1 = List.length d2.2.1) (some (Lp.out (Lp.go ((wr IntKind.i64 (d1.1 + (2 : Int)), d2.2.1, ()) : Int × List (Int × Int × Int × Int × Unit) × Unit))))
noncomputable def g50 (x0 : Int) : Option (List (Int × Int × Int × Int × Unit) × Unit) := gd ((0 : Nat) = (0 : Nat)) (whileO (fun (d1 : Int × List (Int × Int × Int × Int × Unit) × Unit) => bif ile d1.1 (19 : Int) then gd (List.length d1.2.1 = List.length d1.2.1) (whileO (g50_l2 x0 d1) ((d1.1, d1.2.1, ()) : Int × List (Int × Int × Int × Int × Unit) × Unit)) else gd ((0 : Nat) + List.length d1.2.1 ≤ List.length d1.2.1) (some (Lp.out ((List.take (List.length d1.2.1) (List.drop (0 : Nat) d1.2.1), ()) : List (Int × Int × Int × Int × Unit) × Unit)))) (((1 : Int), ([] : List (Int × Int × Int × Int × Unit)), ()) : Int × List (Int × Int × Int × Int × Unit) × Unit))
noncomputable def g50_sh : List LSh := LSh.mk (((3, TV.slf (0) (4)) : Nat × TV) :: ((4, TV.v (Ty.int IntKind.i64)) : Nat × TV) :: ([] : List (Nat × TV))) (TB.arr (Ty.prod (Ty.int IntKind.i64) (Ty.prod (Ty.int IntKind.i64) (Ty.prod (Ty.int IntKind.i64) (Ty.prod (Ty.int IntKind.i64) Ty.unit)))) true :: ([] : List TB)) :: LSh.mk (((3, TV.slf (0) (4)) : Nat × TV) :: ((5, TV.v (Ty.int IntKind.i64)) : Nat × TV) :: ([] : List (Nat × TV))) (TB.arr (Ty.prod (Ty.int IntKind.i64) (Ty.prod (Ty.int IntKind.i64) (Ty.prod (Ty.int IntKind.i64) (Ty.prod (Ty.int IntKind.i64) Ty.unit)))) true :: ([] : List TB)) :: LSh.mk (((3, TV.slf (0) (4)) : Nat × TV) :: ((6, TV.v (Ty.int IntKind.i64)) : Nat × TV) :: ([] : List (Nat × TV))) (TB.arr (Ty.prod (Ty.int IntKind.i64) (Ty.prod (Ty.int IntKind.i64) (Ty.prod (Ty.int IntKind.i64) (Ty.prod (Ty.int IntKind.i64) Ty.unit)))) true :: ([] : List TB)) :: LSh.mk (((3, TV.slf (0) (4)) : Nat × TV) :: ((7, TV.v (Ty.int IntKind.i64)) : Nat × TV) :: ([] : List (Nat × TV))) (TB.arr (Ty.prod (Ty.int IntKind.i64) (Ty.prod (Ty.int IntKind.i64) (Ty.prod (Ty.int IntKind.i64) (Ty.prod (Ty.int IntKind.i64) Ty.unit)))) true :: ([] : List TB)) :: ([] : List LSh)



end Go.Signs

set_option linter.unusedVariables false
set_option linter.unusedSimpArgs false
namespace Go.Signs
open Go Go.Ab Go.Proofs

theorem scon_false {P : Program} (c : SCon) (hcall : callable P c.f = true) (h : allD (c.ins.flatMap TV.ts ++ tsB c.ibl) fun env => ∀ p, c.pre env = some p → ¬ allP p) : c.Ok P :=
  ⟨hcall, fun Γ w env p r vs em henv hpre hF hp hargs => absurd hp (allD_elim (K := fun env => ∀ p, c.pre env = some p → ¬ allP p) h henv p hpre)⟩

section
variable {m : Int}
theorem tryF_inv {g : List Int → Bool × List Int} {k : Nat} (hg : ∀ q, (g q).2.length = q.length ∧ (g q).2.getD 0 0 = q.getD 0 0) : ∀ (c : Nat) (s : Int) (q : List Int), (tryF g k c s q).2.length = q.length ∧ (tryF g k c s q).2.getD 0 0 = q.getD 0 0
  | 0, s, q => by simp [tryF, List.getD_eq_getElem?_getD]
  | c + 1, s, q => by
    have h := hg (q.set (k + 1) s)
    have e : (q.set (k + 1) s).length = q.length ∧ (q.set (k + 1) s).getD 0 0 = q.getD 0 0 := by simp [List.getD_eq_getElem?_getD]
    rw [e.1, e.2] at h
    simp only [tryF]
    split
    · exact h
    · have := tryF_inv (k := k) hg c (s + 1) (g (q.set (k + 1) s)).2
      exact ⟨this.1.trans h.1, this.2.trans h.2⟩
theorem growF_inv : ∀ (n : Nat) (k : Int) (q : List Int), (growF m n k q).2.length = q.length ∧ (growF m n k q).2.getD 0 0 = q.getD 0 0
  | 0, k, q => by simp [growF]
  | n + 1, k, q => by
    simp only [growF]
    split
    · simp
    · exact tryF_inv (growF_inv n (k + 1)) _ _ _

theorem ok81_0 : (con81 0).Ok Try.prog := scon_false _ (by kernel_rfl) (by
  have e : (∀ (k : Int) (q : List Int) (m : Int) (p : List Prop), some [preG 0 m k q] = some p → ¬ allP p) = (allD ((con81 0).ins.flatMap TV.ts ++ tsB (con81 0).ibl) fun env => ∀ p, (con81 0).pre env = some p → ¬ allP p) := by kernel_rfl
  rw [← e]
  intro k q m p hp hq
  cases hp
  have := (Ab.allP_one.1 hq)
  unfold preG at this
  omega)

theorem goal81 (n : Nat) : (con81 (n + 1)).goal Try.prog (spS [con81 n] [con73, con74]) g81_sh [] lm30 := by
  have e : (∀ (k : Int) (q : List Int) (m : Int), preG (n + 1) m k q → g81 n k q m = some ((growF m (n + 1) k q).1, (growF m (n + 1) k q).2, m, ())) = (con81 (n + 1)).goal Try.prog (spS [con81 n] [con73, con74]) g81_sh [] lm30 := by kernel_rfl
  rw [← e]
  rintro k q m ⟨hm, h0, h4, hn, hq, hqm⟩
  unfold g81
  by_cases hk : k = 4
  · subst hk
    have e1 : (ieq (4 : Int) 4) = true := by decide
    rw [cond_t e1, gd_pos (by omega), gd_pos (by intro; omega), gd_pos (by intro h; exact ⟨h, h⟩), gd_pos (by intro h; exact h)]
    simp only [growF, if_true]
    congr 3
    unfold ofL
    cases valQ _ <;> simp
  · have e1 : ieq k 4 = false := by simp [ieq_d, hk]
    have e2 : ishl .i64 (1 : Int) m = ((2 ^ m.toNat : Nat) : Int) := by rcases is135_iff.1 hm with rfl | rfl | rfl <;> decide
    have hP : 2 ^ m.toNat ≤ 32 := by rcases is135_iff.1 hm with rfl | rfl | rfl <;> decide
    rw [cond_f e1, gd_pos (by rcases is135_iff.1 hm with rfl | rfl | rfl <;> decide)]
    simp only [growF, if_neg hk, e2]
    generalize 2 ^ m.toNat = N at hP ⊢
    have key : ∀ (c s : Nat) (q : List Int), s + c = N → q.length = 5 → q.getD 0 0 = m → whileO (fun (d4 : Int × List Int × Int × Unit) => bif ilt d4.1 (N : Int) then gd ((0 : Int) ≤ k ∧ k < (4 : Int)) (gd ((1 : Nat) + Int.toNat k * (1 : Nat) < List.length d4.2.1) (gd (preG n d4.2.2.1 (wr .i64 (k + (1 : Int))) (List.set d4.2.1 ((1 : Nat) + Int.toNat k * (1 : Nat)) d4.1)) (bif (growF d4.2.2.1 n (wr .i64 (k + (1 : Int))) (List.set d4.2.1 ((1 : Nat) + Int.toNat k * (1 : Nat)) d4.1)).1 then some (Lp.out ((true, (growF d4.2.2.1 n (wr .i64 (k + (1 : Int))) (List.set d4.2.1 ((1 : Nat) + Int.toNat k * (1 : Nat)) d4.1)).2, d4.2.2.1, ()) : Bool × List Int × Int × Unit)) else some (Lp.go ((wr .i64 (d4.1 + (1 : Int)), (growF d4.2.2.1 n (wr .i64 (k + (1 : Int))) (List.set d4.2.1 ((1 : Nat) + Int.toNat k * (1 : Nat)) d4.1)).2, d4.2.2.1, ()) : Int × List Int × Int × Unit))))) else gd ((0 : Int) ≤ k ∧ k < (4 : Int)) (gd ((1 : Nat) + Int.toNat k * (1 : Nat) < List.length d4.2.1) (some (Lp.out ((false, List.set d4.2.1 ((1 : Nat) + Int.toNat k * (1 : Nat)) (0 : Int), d4.2.2.1, ()) : Bool × List Int × Int × Unit))))) (((s : Int), q, m, ()) : Int × List Int × Int × Unit) = some ((tryF (growF m n (k + 1)) k.toNat c s q).1, (tryF (growF m n (k + 1)) k.toNat c s q).2, m, ()) := by
      intro c
      induction c with
      | zero =>
        intro s q hs hq hqm
        refine whileO_out ?_
        have : ilt (s : Int) (N : Int) = false := by simp [ilt]; omega
        simp only [this, cond_f, gd_pos (show (0 : Int) ≤ k ∧ k < 4 by omega), gd_pos (show k.toNat + 1 < q.length by omega), tryF, Nat.mul_one, Nat.add_comm 1]
      | succ c ih =>
        intro s q hs hq hqm
        have h1 : ilt (s : Int) (N : Int) = true := by simp [ilt]; omega
        have hw : wr .i64 (k + 1) = k + 1 := wr_id (by omega)
        have hi := growF_inv (m := m) n (k + 1) (q.set (k.toNat + 1) s)
        have e3 : (q.set (k.toNat + 1) (s : Int)).length = 5 := by simp [hq]
        have e4 : (q.set (k.toNat + 1) (s : Int)).getD 0 0 = m := by rw [← hqm]; simp [List.getD_eq_getElem?_getD]
        rw [e3, e4] at hi
        have hp : preG n m (k + 1) (q.set (k.toNat + 1) s) := ⟨hm, by omega, by omega, by omega, e3, e4⟩
        simp only [tryF]
        cases hb : (growF m n (k + 1) (q.set (k.toNat + 1) s)).1 with
        | true =>
          refine whileO_out ?_
          simp only [h1, cond_t, gd_pos (show (0 : Int) ≤ k ∧ k < 4 by omega), gd_pos (show k.toNat + 1 < q.length by omega), hw, Nat.mul_one, Nat.add_comm 1, gd_pos hp, hb, if_true]
        | false =>
          refine (whileO_go (s' := (((s + 1 : Nat) : Int), (growF m n (k + 1) (q.set (k.toNat + 1) s)).2, m, ())) ?_).trans ?_
          · simp only [h1, cond_t, gd_pos (show (0 : Int) ≤ k ∧ k < 4 by omega), gd_pos (show k.toNat + 1 < q.length by omega), hw, Nat.mul_one, Nat.add_comm 1, gd_pos hp, hb, cond_f]
            rw [wr_id (by omega)]
            simp [Int.add_comm]
          · rw [ih (s + 1) _ (by omega) hi.1 hi.2]
            simp
    exact key N 0 q (by omega) hq hqm
set_option maxRecDepth 100000 in
theorem ok81 : ∀ n, (con81 n).Ok Try.prog
  | 0 => ok81_0
  | n + 1 => SCon.of_goal mixed (okC ok73 (okC ok74 okN)) (okS (ok81 n) okS0) (con81 (n + 1)) (goal81 n)
end
end Go.Signs

set_option linter.unusedVariables false
set_option linter.unusedSimpArgs false
namespace Go.Signs
open Go Go.Ab Go.Proofs

abbrev G4 := Int → Int → List Int → List A4D → List Int × List A4D
theorem loop4_inv {g : G4} {k : Nat} {left : Int} {B : Nat} (hg : ∀ x r l out, (g x r l out).1.length = l.length ∧ (g x r l out).2.length ≤ out.length + B) : ∀ (c : Nat) (x : Int) (l : List Int) (out : List A4D),
    (loop4 g k left c x l out).1.length = l.length ∧ (loop4 g k left c x l out).2.length ≤ out.length + c * B
  | 0, x, l, out => by simp [loop4]
  | c + 1, x, l, out => by
    simp only [loop4]
    split
    · obtain ⟨h1, h2⟩ := hg x (left - x * x) (l.set k x) out
      obtain ⟨i1, i2⟩ := loop4_inv (k := k) (left := left) hg c (x + 2) (g x (left - x * x) (l.set k x) out).1 (g x (left - x * x) (l.set k x) out).2
      rw [List.length_set] at h1
      refine ⟨i1.trans h1, ?_⟩
      rw [Nat.add_mul]
      omega
    · simp only [true_and]
      omega
theorem grow4_inv : ∀ (n : Nat) (k least left : Int) (l : List Int) (out : List A4D), (grow4 n k least left l out).1.length = l.length ∧ (0 ≤ k → k ≤ 4 → (grow4 n k least left l out).2.length ≤ out.length + 21 ^ (4 - k).toNat)
  | 0, k, least, left, l, out => by simp [grow4]
  | n + 1, k, least, left, l, out => by
    simp only [grow4]
    split
    · rename_i h
      subst h
      simp only [true_and]
      intro _ _
      split <;> simp
    · rename_i h
      have h1 : ∀ c x l out, (loop4 (grow4 n (k + 1)) k.toNat left c x l out).1.length = l.length := by
        intro c
        induction c with
        | zero => intro x l out; rfl
        | succ c ih =>
          intro x l out
          simp only [loop4]
          split
          · rw [ih, (grow4_inv n _ _ _ _ _).1, List.length_set]
          · rfl
      refine ⟨h1 _ _ _ _, fun h0 h4 => ?_⟩
      have := (loop4_inv (g := grow4 n (k + 1)) (k := k.toNat) (left := left) (B := 21 ^ (4 - (k + 1)).toNat) (fun x r l out => ⟨(grow4_inv n _ _ _ _ _).1, (grow4_inv n _ _ _ _ _).2 (by omega) (by omega)⟩) 21 least l out).2
      rw [show (4 - k).toNat = (4 - (k + 1)).toNat + 1 by omega, Nat.pow_succ, Nat.mul_comm _ 21]
      exact this

theorem loop4_pos {g : G4} {k : Nat} {left : Int} {c : Nat} {x : Int} {l : List Int} {out : List A4D} (h : x * x ≤ left) : loop4 g k left (c + 1) x l out = loop4 g k left c (x + 2) (g x (left - x * x) (l.set k x) out).1 (g x (left - x * x) (l.set k x) out).2 := by
  simp only [loop4, if_pos h]
theorem loop4_neg {g : G4} {k : Nat} {left : Int} {c : Nat} {x : Int} {l : List Int} {out : List A4D} (h : ¬ x * x ≤ left) : loop4 g k left (c + 1) x l out = (l, out) := by
  simp only [loop4, if_neg h]
theorem grow4_ne {n : Nat} {k least left : Int} {l : List Int} {out : List A4D} (h : k ≠ 4) : grow4 (n + 1) k least left l out = loop4 (grow4 n (k + 1)) k.toNat left 21 least l out := by
  simp only [grow4, if_neg h]

theorem ok82_0 : (con82 0).Ok Try.prog := scon_false _ (by kernel_rfl) (by
  have e : (∀ (k least left : Int) (l : List Int) (out : List A4D) (p : List Prop), some [pre4 0 k least left l out] = some p → ¬ allP p) = (allD ((con82 0).ins.flatMap TV.ts ++ tsB (con82 0).ibl) fun env => ∀ p, (con82 0).pre env = some p → ¬ allP p) := by kernel_rfl
  rw [← e]
  intro k least left l out p hp hq
  cases hp
  have := (Ab.allP_one.1 hq)
  unfold pre4 at this
  omega)

theorem goal82 (n : Nat) : (con82 (n + 1)).goal Try.prog (spS [con82 n] []) g82_sh [] lm30 := by
  have e : (∀ (k least left : Int) (l : List Int) (out : List A4D), pre4 (n + 1) k least left l out → g82 n k least left l out = some ((grow4 (n + 1) k least left l out).1, (grow4 (n + 1) k least left l out).2, ())) = (con82 (n + 1)).goal Try.prog (spS [con82 n] []) g82_sh [] lm30 := by kernel_rfl
  rw [← e]
  rintro k least left l out ⟨h0, h4, hn, hl1, hl2, hf0, hf4, hl, ho⟩
  unfold g82
  by_cases hk : k = 4
  · subst hk
    have ho' : out.length + 1 ≤ 194481 := ho
    rw [cond_t (show ieq (4 : Int) 4 = true by decide)]
    simp only [growF, grow4, if_true]
    by_cases hz : left = 0
    · rw [cond_t (by simp [ieq_d, hz]), gd_pos (by omega), gd_pos (by omega), gd_pos (by omega), gd_pos (by simp)]
      rw [if_pos hz, List.take_length]
      rfl
    · rw [cond_f (by simp [ieq_d, hz]), gd_true, if_neg hz]
  · rw [cond_f (by simp [ieq_d, hk]), gd_pos rfl, grow4_ne hk]
    have hw : wr .i64 (k + 1) = k + 1 := wr_id (by omega)
    have hpow : 21 ^ (4 - k).toNat = 21 * 21 ^ (4 - (k + 1)).toNat := by rw [show (4 - k).toNat = (4 - (k + 1)).toNat + 1 by omega, Nat.pow_succ, Nat.mul_comm _ 21]
    rw [hpow] at ho
    generalize hB : 21 ^ (4 - (k + 1)).toNat = B at ho
    have hgi := fun x r l out => grow4_inv n (k + 1) x r l out
    have key : ∀ (c : Nat) (x : Int) (l : List Int) (out : List A4D), 43 - 2 * c ≤ x → x ≤ 60 → 1 ≤ x → l.length = 4 → out.length + c * B ≤ 194481 → whileO (fun (d6 : Int × List Int × List A4D × Unit) => bif ile (wr .i64 (d6.1 * d6.1)) left then gd ((0 : Int) ≤ k ∧ k < (4 : Int)) (gd ((0 : Nat) + Int.toNat k * (1 : Nat) < List.length d6.2.1) (gd (List.length d6.2.2.1 = List.length d6.2.2.1) (gd (pre4 n (wr .i64 (k + (1 : Int))) d6.1 (wr .i64 (left - wr .i64 (d6.1 * d6.1))) (List.set d6.2.1 ((0 : Nat) + Int.toNat k * (1 : Nat)) d6.1) d6.2.2.1) (gd (List.length (grow4 n (wr .i64 (k + (1 : Int))) d6.1 (wr .i64 (left - wr .i64 (d6.1 * d6.1))) (List.set d6.2.1 ((0 : Nat) + Int.toNat k * (1 : Nat)) d6.1) d6.2.2.1).2 = List.length (grow4 n (wr .i64 (k + (1 : Int))) d6.1 (wr .i64 (left - wr .i64 (d6.1 * d6.1))) (List.set d6.2.1 ((0 : Nat) + Int.toNat k * (1 : Nat)) d6.1) d6.2.2.1).2) (some (Lp.go ((wr .i64 (d6.1 + (2 : Int)), (grow4 n (wr .i64 (k + (1 : Int))) d6.1 (wr .i64 (left - wr .i64 (d6.1 * d6.1))) (List.set d6.2.1 ((0 : Nat) + Int.toNat k * (1 : Nat)) d6.1) d6.2.2.1).1, (grow4 n (wr .i64 (k + (1 : Int))) d6.1 (wr .i64 (left - wr .i64 (d6.1 * d6.1))) (List.set d6.2.1 ((0 : Nat) + Int.toNat k * (1 : Nat)) d6.1) d6.2.2.1).2, ()) : Int × List Int × List A4D × Unit))))))) else gd (List.length d6.2.2.1 = List.length d6.2.2.1) (some (Lp.out ((d6.2.1, d6.2.2.1, ()) : List Int × List A4D × Unit)))) ((x, l, out, ()) : Int × List Int × List A4D × Unit) = some ((loop4 (grow4 n (k + 1)) k.toNat left c x l out).1, (loop4 (grow4 n (k + 1)) k.toNat left c x l out).2, ()) := by
      intro c
      induction c with
      | zero =>
        intro x l out hx hx6 hx1 hl ho
        have hxx : 43 * 43 ≤ x * x := Int.mul_le_mul (by omega) (by omega) (by omega) (by omega)
        have hxx2 : x * x ≤ 60 * 60 := Int.mul_le_mul (by omega) (by omega) (by omega) (by omega)
        refine whileO_out ?_
        have : ile (wr .i64 (x * x)) left = false := by rw [wr_id (by omega)]; simp [ile]; omega
        simp only [this, cond_f, gd_pos, loop4]
      | succ c ih =>
        intro x l out hx hx6 hx1 hl ho
        have hxx2 : x * x ≤ 60 * 60 := Int.mul_le_mul (by omega) (by omega) (by omega) (by omega)
        have hxx1 : 1 * 1 ≤ x * x := Int.mul_le_mul (by omega) (by omega) (by omega) (by omega)
        have hq : wr .i64 (x * x) = x * x := wr_id (by omega)
        by_cases hc : x * x ≤ left
        · have hx20 : x ≤ 20 := by
            rcases Int.lt_or_le 20 x with h | h
            · have : 21 * 21 ≤ x * x := Int.mul_le_mul (by omega) (by omega) (by omega) (by omega)
              omega
            · exact h
          have hi := hgi x (left - x * x) (l.set k.toNat x) out
          rw [hB, List.length_set] at hi
          have hi2 := hi.2 (by omega) (by omega)
          rw [Nat.add_mul] at ho
          have hp : pre4 n (k + 1) x (left - x * x) (l.set k.toNat x) out := ⟨by omega, by omega, by omega, by omega, by omega, by omega, by omega, by simp [hl], by rw [hB]; omega⟩
          rw [loop4_pos hc]
          refine (whileO_go (s' := (x + 2, (grow4 n (k + 1) x (left - x * x) (l.set k.toNat x) out).1, (grow4 n (k + 1) x (left - x * x) (l.set k.toNat x) out).2, ())) ?_).trans ?_
          · have hw2 : wr .i64 (left - x * x) = left - x * x := wr_id (by omega)
            have hw3 : wr .i64 (x + 2) = x + 2 := wr_id (by omega)
            have h1 : ile (x * x) left = true := by simp [ile]; omega
            simp only [hq, h1, cond_t, gd_pos (show (0 : Int) ≤ k ∧ k < 4 by omega), hw, Nat.mul_one, Nat.zero_add, gd_pos (show k.toNat < l.length by omega), gd_pos, hw2, gd_pos hp, hw3]
          · have hlen : (grow4 n (k + 1) x (left - x * x) (l.set k.toNat x) out).2.length + c * B ≤ 194481 := by omega
            exact ih (x + 2) _ _ (by omega) (by omega) (by omega) (by rw [hi.1, hl]) hlen
        · rw [loop4_neg hc]
          refine whileO_out ?_
          have h1 : ile (x * x) left = false := by simp [ile]; omega
          simp only [hq, h1, cond_f, gd_pos]
    exact key 21 least l out (by omega) (by omega) hl1 hl ho
set_option maxRecDepth 100000 in
theorem ok82 : ∀ n, (con82 n).Ok Try.prog
  | 0 => ok82_0
  | n + 1 => SCon.of_goal mixed okN (okS (ok82 n) okS0) (con82 (n + 1)) (goal82 n)
end Go.Signs

set_option linter.unusedVariables false
set_option linter.unusedSimpArgs false
namespace Go.Signs
open Go Go.Ab Go.Proofs

section
variable {m : Int}
theorem seek_add {b : Nat} : ∀ (a n : Nat), seekN m (a + b) n = match seekN m a n with | some r => some r | none => seekN m b (n + a)
  | 0, n => by simp [seekN]
  | a + 1, n => by
    rw [show a + 1 + b = (a + b) + 1 by omega]
    simp only [seekN]
    by_cases h : goodN m n = true
    · simp only [if_pos h]
    · simp only [if_neg h]
      rw [seek_add a (n + 1), show n + 1 + a = n + (a + 1) by omega]

/-- The first k numbers of q are the first k digits of N. -/
def agr (m : Int) (k : Nat) (q : List Int) (N : Nat) : Prop := ∀ i, i < k → q.getD (i + 1) 0 = dig m N i

theorem dig_eq {N i : Nat} : dig m N i = ((N / (2 ^ m.toNat) ^ (3 - i) % 2 ^ m.toNat : Nat) : Int) := by
  unfold dig
  rw [Nat.mul_comm (3 - i), Nat.pow_mul]
theorem dig_new {B : Nat} (hB : B = 2 ^ m.toNat) {k D s : Nat} (hk : k < 4) (hs : s < B) : dig m (D * B ^ (4 - k) + s * B ^ (3 - k)) k = s := by
  have hB0 : 0 < B := by omega
  rw [dig_eq, ← hB, show 4 - k = (3 - k) + 1 by omega, Nat.pow_succ, Nat.mul_comm (B ^ (3 - k)) B, ← Nat.mul_assoc, ← Nat.add_mul, Nat.mul_div_cancel _ (Nat.pow_pos hB0), Nat.add_comm, Nat.add_mul_mod_self_right, Nat.mod_eq_of_lt hs]
theorem dig_old {B : Nat} (hB : B = 2 ^ m.toNat) {k D s i : Nat} (hk : k < 4) (hs : s < B) (hi : i < k) : dig m (D * B ^ (4 - k) + s * B ^ (3 - k)) i = dig m (D * B ^ (4 - k)) i := by
  have hB0 : 0 < B := by omega
  have e : B ^ (3 - i) = B ^ (4 - k) * B ^ (k - 1 - i) := by rw [← Nat.pow_add]; congr 1; omega
  have e2 : (D * B ^ (4 - k) + s * B ^ (3 - k)) / B ^ (4 - k) = D := by
    rw [Nat.add_comm, Nat.add_mul_div_right _ _ (Nat.pow_pos hB0), Nat.div_eq_of_lt, Nat.zero_add]
    rw [show 4 - k = (3 - k) + 1 by omega, Nat.pow_succ, Nat.mul_comm _ B]
    exact Nat.mul_lt_mul_of_pos_right hs (Nat.pow_pos hB0)
  rw [dig_eq, dig_eq, ← hB, e, ← Nat.div_div_eq_div_mul, ← Nat.div_div_eq_div_mul, e2, Nat.mul_div_cancel _ (Nat.pow_pos hB0)]

theorem ofL_agr {q : List Int} {N : Nat} (hm : q.getD 0 0 = m) (h : agr m 4 q N) : ofL q = (m, digs m N, ()) := by
  have h0 := h 0 (by omega)
  have h1 := h 1 (by omega)
  have h2 := h 2 (by omega)
  have h3 := h 3 (by omega)
  unfold ofL digs
  rw [hm, h0, h1, h2, h3]

theorem getD_set {q : List Int} {i j : Nat} {x : Int} (h : i < q.length) : (q.set i x).getD j 0 = if j = i then x else q.getD j 0 := by
  simp only [List.getD_eq_getElem?_getD, List.getElem?_set]
  by_cases h2 : i = j
  · subst h2; simp [h]
  · simp [h2, Ne.symm h2]

theorem grow_seek {B : Nat} (hB : B = 2 ^ m.toNat) : ∀ (n k : Nat) (q : List Int) (D : Nat), k ≤ 4 → 4 - k < n → q.length = 5 → q.getD 0 0 = m → agr m k q (D * B ^ (4 - k)) →
    match seekN m (B ^ (4 - k)) (D * B ^ (4 - k)) with
    | some r => (growF m n k q).1 = true ∧ ofL (growF m n k q).2 = (m, digs m r, ())
    | none => (growF m n k q).1 = false ∧ agr m k (growF m n k q).2 (D * B ^ (4 - k))
  | 0, k, q, D, hk, hn, _, _, _ => by omega
  | n + 1, k, q, D, hk, hn, hq, hm, ha => by
    by_cases h4 : k = 4
    · subst h4
      have e := ofL_agr hm ha
      simp only [growF]
      rw [if_pos (by decide)]
      simp only [Nat.sub_self, Nat.pow_zero, seekN]
      rw [e]
      unfold goodN
      by_cases hg : (valQ (m, digs m (D * B ^ (4 - 4)), ()) && goodF (m, digs m (D * B ^ (4 - 4)), ())) = true
      · rw [if_pos (by simpa using hg)]
        exact ⟨by simpa using hg, by simp⟩
      · rw [if_neg (by simpa using hg)]
        exact ⟨by simpa using hg, by simpa using ha⟩
    · have hk3 : k < 4 := by omega
      have hB0 : 0 < B := by rw [hB]; exact Nat.pow_pos (by decide)
      have e0 : growF m (n + 1) k q = tryF (growF m n ((k : Int) + 1)) k B 0 q := by
        simp only [growF]
        rw [if_neg (by omega), hB]
        rfl
      rw [e0, show B ^ (4 - k) = B * B ^ (3 - k) by rw [show 4 - k = (3 - k) + 1 by omega, Nat.pow_succ, Nat.mul_comm]]
      have key : ∀ (c s : Nat) (q : List Int), s + c = B → q.length = 5 → q.getD 0 0 = m → agr m k q (D * B ^ (4 - k)) →
          match seekN m (c * B ^ (3 - k)) (D * B ^ (4 - k) + s * B ^ (3 - k)) with
          | some r => (tryF (growF m n ((k : Int) + 1)) k c s q).1 = true ∧ ofL (tryF (growF m n ((k : Int) + 1)) k c s q).2 = (m, digs m r, ())
          | none => (tryF (growF m n ((k : Int) + 1)) k c s q).1 = false ∧ agr m k (tryF (growF m n ((k : Int) + 1)) k c s q).2 (D * B ^ (4 - k)) := by
        intro c
        induction c with
        | zero =>
          intro s q hs hq hm ha
          simp only [Nat.zero_mul, seekN, tryF, true_and]
          intro i hi
          rw [getD_set (by omega), if_neg (by omega)]
          exact ha i hi
        | succ c ih =>
          intro s q hs hq hm ha
          have hs' : s < B := by omega
          have hl : (q.set (k + 1) (s : Int)).length = 5 := by simp [hq]
          have h0 : (q.set (k + 1) (s : Int)).getD 0 0 = m := by rw [getD_set (by omega), if_neg (by omega)]; exact hm
          have ha' : agr m (k + 1) (q.set (k + 1) (s : Int)) ((D * B + s) * B ^ (4 - (k + 1))) := by
            have eN : (D * B + s) * B ^ (4 - (k + 1)) = D * B ^ (4 - k) + s * B ^ (3 - k) := by
              rw [show 4 - (k + 1) = 3 - k by omega, Nat.add_mul, show B ^ (4 - k) = B * B ^ (3 - k) by rw [show 4 - k = (3 - k) + 1 by omega, Nat.pow_succ, Nat.mul_comm], Nat.mul_assoc]
            intro i hi
            rw [eN, getD_set (by omega)]
            by_cases hik : i = k
            · subst hik
              rw [if_pos rfl, dig_new hB hk3 hs']
            · rw [if_neg (by omega), dig_old hB hk3 hs' (by omega)]
              exact ha i (by omega)
          have hr := grow_seek hB n (k + 1) (q.set (k + 1) (s : Int)) (D * B + s) (by omega) (by omega) hl h0 ha'
          have eN : (D * B + s) * B ^ (4 - (k + 1)) = D * B ^ (4 - k) + s * B ^ (3 - k) := by
            rw [show 4 - (k + 1) = 3 - k by omega, Nat.add_mul, show B ^ (4 - k) = B * B ^ (3 - k) by rw [show 4 - k = (3 - k) + 1 by omega, Nat.pow_succ, Nat.mul_comm], Nat.mul_assoc]
          rw [eN, show 4 - (k + 1) = 3 - k by omega] at hr
          rw [show (c + 1) * B ^ (3 - k) = B ^ (3 - k) + c * B ^ (3 - k) by rw [Nat.add_mul, Nat.one_mul, Nat.add_comm], seek_add]
          have ek : ((k + 1 : Nat) : Int) = (k : Int) + 1 := by omega
          rw [ek] at hr
          simp only [tryF]
          cases hc : seekN m (B ^ (3 - k)) (D * B ^ (4 - k) + s * B ^ (3 - k)) with
          | some r =>
            rw [hc] at hr
            simp only at hr ⊢
            rw [if_pos hr.1]
            exact ⟨rfl, hr.2⟩
          | none =>
            rw [hc] at hr
            simp only at hr ⊢
            rw [if_neg (by rw [hr.1]; decide)]
            have hi := growF_inv (m := m) n ((k : Int) + 1) (q.set (k + 1) (s : Int))
            have := ih (s + 1) (growF m n ((k : Int) + 1) (q.set (k + 1) (s : Int))).2 (by omega) (hi.1.trans hl) (hi.2.trans h0) (fun i hi' => by
              rw [hr.2 i (by omega), dig_old hB hk3 hs' hi'])
            rw [show D * B ^ (4 - k) + (s + 1) * B ^ (3 - k) = D * B ^ (4 - k) + s * B ^ (3 - k) + B ^ (3 - k) by rw [Nat.add_mul, Nat.one_mul, Nat.add_assoc]] at this
            exact this
      have := key B 0 q (by omega) hq hm ha
      rw [Nat.zero_mul, Nat.add_zero] at this
      rw [show D * (B * B ^ (3 - k)) = D * B ^ (4 - k) by rw [show 4 - k = (3 - k) + 1 by omega, Nat.pow_succ, Nat.mul_comm B]]
      exact this

def findX (m : Int) : A4D × Int × Unit := if (growF m 5 0 [m, 0, 0, 0, 0]).1 = true then ((ofL (growF m 5 0 [m, 0, 0, 0, 0]).2).2.1, 0, ()) else ((0, 0, 0, 0, ()), 4, ())
theorem findX_eq : findX m = findR m := by
  have h := grow_seek (m := m) rfl 5 0 [m, 0, 0, 0, 0] 0 (by omega) (by omega) rfl rfl (fun i hi => by omega)
  have e : (2 ^ m.toNat) ^ (4 - 0) = 2 ^ (4 * m.toNat) := by rw [← Nat.pow_mul, Nat.mul_comm]
  rw [Nat.zero_mul, e] at h
  have e2 : ((0 : Nat) : Int) = 0 := rfl
  rw [e2] at h
  unfold findX findR
  cases hc : seekN m (2 ^ (4 * m.toNat)) 0 with
  | some r =>
    rw [hc] at h
    simp only at h ⊢
    rw [if_pos h.1, h.2]
  | none =>
    rw [hc] at h
    simp only at h ⊢
    rw [if_neg (by rw [h.1]; decide)]
end
end Go.Signs

set_option linter.unusedVariables false
set_option linter.unusedSimpArgs false
namespace Go.Signs
open Go Go.Ab Go.Proofs

section
variable {f : Int → List A4D → List A4D}
theorem loopR_len {K : Nat} (hf : ∀ x out, 1 ≤ x → (f x out).length ≤ out.length + K) : ∀ (c : Nat) (x : Int) (out : List A4D), 1 ≤ x → (loopR f c x out).length ≤ out.length + c * K
  | 0, x, out, _ => by simp [loopR]
  | c + 1, x, out, h => by
    have := loopR_len hf c (x + 2) (f x out) (by omega)
    have := hf x out h
    rw [loopR, Nat.add_mul]
    omega
theorem loopR_id : ∀ (c : Nat) (x : Int) (out : List A4D), (∀ y o, x ≤ y → f y o = o) → loopR f c x out = out
  | 0, x, out, _ => rfl
  | c + 1, x, out, h => by rw [loopR, h x out (by omega)]; exact loopR_id c (x + 2) out fun y o hy => h y o (by omega)

theorem loopR_while {X : Type} {step : Int × List A4D × Unit → Option (Lp (Int × List A4D × Unit) X)} {y : List A4D → X} {K M : Nat} (hf : ∀ x out, 1 ≤ x → (f x out).length ≤ out.length + K)
    (hgo : ∀ x out, 1 ≤ x → x ≤ 19 → x % 2 = 1 → out.length + K ≤ M → step (x, out, ()) = some (.go (x + 2, f x out, ()))) (hout : ∀ x out, 19 < x → step (x, out, ()) = some (.out (y out))) :
    ∀ (c : Nat) (x : Int) (out : List A4D), x + 2 * c = 21 → 1 ≤ x → out.length + c * K ≤ M → whileO step (x, out, ()) = some (y (loopR f c x out))
  | 0, x, out, hx, h1, ho => by rw [loopR]; exact whileO_out (hout x out (by omega))
  | c + 1, x, out, hx, h1, ho => by
    rw [Nat.add_mul] at ho
    have := hf x out h1
    rw [loopR]
    exact (whileO_go (hgo x out h1 (by omega) (by omega) (by omega))).trans (loopR_while hf hgo hout c (x + 2) (f x out) (by omega) (by omega) (by omega))
end

section
variable {n : Int}
theorem sumsq_app {p : List Int} {x : Int} : sumsq (p ++ [x]) = sumsq p + x * x := by simp [sumsq]
theorem refG_len : ∀ (j : Nat) (p : List Int) (least : Int) (out : List A4D), 1 ≤ least → (refG n j p least out).length ≤ out.length + 10 ^ j
  | 0, p, least, out, _ => by
    simp only [refG]
    split <;> simp
  | j + 1, p, least, out, h => by
    rw [refG]
    have := loopR_len (f := fun x o => refG n j (p ++ [x]) x o) (K := 10 ^ j) (fun x out hx => refG_len j _ _ _ hx) (cnt least) least out h
    have hc : cnt least ≤ 10 := by unfold cnt; omega
    have := Nat.mul_le_mul_right (10 ^ j) hc
    rw [Nat.pow_succ]
    omega
theorem refG_id : ∀ (j : Nat) (p : List Int) (least : Int) (out : List A4D), 4 * n < sumsq p → refG n j p least out = out
  | 0, p, least, out, h => by rw [refG, if_neg (by omega)]
  | j + 1, p, least, out, h => by
    rw [refG]
    refine loopR_id _ _ _ fun y o _ => refG_id j _ _ _ ?_
    rw [sumsq_app]
    have : 0 ≤ y * y := by
      rcases Int.le_total 0 y with h | h
      · exact Int.mul_nonneg h h
      · exact Int.mul_nonneg_of_nonpos_of_nonpos h h
    omega

theorem take_set {l p : List Int} {k : Nat} {x : Int} (hl : k < l.length) (h : l.take k = p) : (l.set k x).take (k + 1) = p ++ [x] := by
  subst h
  rw [List.take_add_one, List.take_set_of_le (Nat.le_refl _)]
  simp [hl]

theorem grow_ref (hn : 4 * n ≤ 400) : ∀ (j k : Nat) (p l : List Int) (least : Int) (out : List A4D), k + j = 4 → l.length = 4 → l.take k = p → sumsq p ≤ 4 * n → 0 ≤ sumsq p → 1 ≤ least → least % 2 = 1 → least ≤ 21 →
    (grow4 (j + 1) k least (4 * n - sumsq p) l out).2 = refG n j p least out ∧ (grow4 (j + 1) k least (4 * n - sumsq p) l out).1.take k = p
  | 0, k, p, l, least, out, hk, hl, hp, hs, hs0, h1, h2, h3 => by
    obtain rfl : k = 4 := by omega
    have : l = p := by rw [← hp, List.take_of_length_le (by omega)]
    subst this
    simp only [grow4, refG]
    rw [if_pos (by decide)]
    refine ⟨?_, hp⟩
    by_cases h : sumsq l = 4 * n
    · rw [if_pos (by omega), if_pos h]
    · rw [if_neg (by omega), if_neg h]
  | j + 1, k, p, l, least, out, hk, hl, hp, hs, hs0, h1, h2, h3 => by
    rw [grow4_ne (by omega), refG]
    have ek : ((k + 1 : Nat) : Int) = (k : Int) + 1 := by omega
    have key : ∀ (c c' : Nat) (x : Int) (l : List Int) (out : List A4D), x + 2 * c = 21 → 43 - 2 * c' ≤ x → 1 ≤ x → l.length = 4 → l.take k = p →
        (loop4 (grow4 (j + 1) ((k : Int) + 1)) k (4 * n - sumsq p) c' x l out).2 = loopR (fun x o => refG n j (p ++ [x]) x o) c x out ∧ (loop4 (grow4 (j + 1) ((k : Int) + 1)) k (4 * n - sumsq p) c' x l out).1.take k = p := by
      intro c
      induction c with
      | zero =>
        intro c' x l out hx hc hx1 hl hp
        have : 21 * 21 ≤ x * x := Int.mul_le_mul (by omega) (by omega) (by omega) (by omega)
        cases c' with
        | zero => exact ⟨rfl, hp⟩
        | succ c' => rw [loop4_neg (by omega)]; exact ⟨rfl, hp⟩
      | succ c ih =>
        intro c' x l out hx hc hx1 hl hp
        obtain ⟨c'', rfl⟩ : ∃ c'', c' = c'' + 1 := ⟨c' - 1, by omega⟩
        by_cases hh : x * x ≤ 4 * n - sumsq p
        · have hxx : 1 * 1 ≤ x * x := Int.mul_le_mul (by omega) (by omega) (by omega) (by omega)
          have e := sumsq_app (p := p) (x := x)
          obtain ⟨g1, g2⟩ := grow_ref hn j (k + 1) (p ++ [x]) (l.set k x) x out (by omega) (by simp [hl]) (take_set (by omega) hp) (by omega) (by omega) hx1 (by omega) (by omega)
          rw [ek, e, show 4 * n - (sumsq p + x * x) = 4 * n - sumsq p - x * x by omega] at g1 g2
          have g3 := (grow4_inv (j + 1) ((k : Int) + 1) x (4 * n - sumsq p - x * x) (l.set k x) out).1
          rw [List.length_set] at g3
          rw [loop4_pos hh, loopR, g1]
          refine ih c'' (x + 2) _ _ (by omega) (by omega) (by omega) (g3.trans hl) ?_
          have := congrArg (List.take k) g2
          rw [List.take_take, Nat.min_eq_left (by omega), List.take_append_of_le_length (by rw [← hp]; simp; omega)] at this
          rw [this, ← hp, List.take_take, Nat.min_self]
        · rw [loop4_neg hh]
          refine ⟨?_, hp⟩
          symm
          refine loopR_id _ _ _ fun y o hy => refG_id j _ _ _ ?_
          have : x * x ≤ y * y := Int.mul_le_mul hy hy (by omega) (by omega)
          rw [sumsq_app]
          omega
    have hc : (cnt least : Int) = (21 - least) / 2 := by unfold cnt; omega
    exact key (cnt least) 21 least l out (by omega) (by omega) h1 hl hp

theorem four_eq (h : 1 ≤ n ∧ n ≤ 100) : (grow4 5 0 1 (4 * n) [0, 0, 0, 0] []).2 = fourR n := by
  have := (grow_ref (n := n) (by omega) 4 0 [] [0, 0, 0, 0] 1 [] rfl rfl rfl (by simp [sumsq]; omega) (by simp [sumsq]) (by omega) (by omega) (by omega)).1
  unfold fourR
  simpa [sumsq] using this
end
end Go.Signs

set_option linter.unusedVariables false
set_option linter.unusedSimpArgs false
namespace Go.Signs
open Go Go.Ab Go.Proofs

noncomputable def con10 : Con := mkC 10 [.d I64] [.bool] (fun (n : Int) => []) (fun (n : Int) => (true, ()))
noncomputable def g10 (x0 : Int) : Option (Bool × Unit) := gd ((4 : Nat) ≤ (4 : Nat)) (gd ((!ieq x0 (1 : Int)) = true → (!ieq x0 (1 : Int)) = true) (gd ((!ieq x0 (1 : Int)) = true → (!ieq x0 (1 : Int)) = true) (gd ((bif !ieq x0 (1 : Int) then !ieq x0 (3 : Int) else false) = true → (bif !ieq x0 (1 : Int) then !ieq x0 (3 : Int) else false) = true) (gd ((bif !ieq x0 (1 : Int) then !ieq x0 (3 : Int) else false) = true → (bif !ieq x0 (1 : Int) then !ieq x0 (3 : Int) else false) = true) (bif bif bif !ieq x0 (1 : Int) then !ieq x0 (3 : Int) else false then !ieq x0 (5 : Int) else false then gd ((4 : Nat) ≤ (4 : Nat)) (gd ((!!deq (Ty.prod (Ty.int IntKind.i64) (Ty.prod (Ty.int IntKind.i64) (Ty.prod (Ty.int IntKind.i64) (Ty.prod (Ty.int IntKind.i64) Ty.unit)))) ((((findF x0).1.1, (findF x0).1.2.1, (findF x0).1.2.2.1, (findF x0).1.2.2.2.1, ()) : Int × Int × Int × Int × Unit) : Int × Int × Int × Int × Unit) ((((0 : Int), (0 : Int), (0 : Int), (0 : Int), ()) : Int × Int × Int × Int × Unit) : Int × Int × Int × Int × Unit)) = true → (!!deq (Ty.prod (Ty.int IntKind.i64) (Ty.prod (Ty.int IntKind.i64) (Ty.prod (Ty.int IntKind.i64) (Ty.prod (Ty.int IntKind.i64) Ty.unit)))) ((((findF x0).1.1, (findF x0).1.2.1, (findF x0).1.2.2.1, (findF x0).1.2.2.2.1, ()) : Int × Int × Int × Int × Unit) : Int × Int × Int × Int × Unit) ((((0 : Int), (0 : Int), (0 : Int), (0 : Int), ()) : Int × Int × Int × Int × Unit) : Int × Int × Int × Int × Unit)) = true) (gd ((!deq (Ty.prod (Ty.int IntKind.i64) (Ty.prod (Ty.int IntKind.i64) (Ty.prod (Ty.int IntKind.i64) (Ty.prod (Ty.int IntKind.i64) Ty.unit)))) ((((findF x0).1.1, (findF x0).1.2.1, (findF x0).1.2.2.1, (findF x0).1.2.2.2.1, ()) : Int × Int × Int × Int × Unit) : Int × Int × Int × Int × Unit) ((((0 : Int), (0 : Int), (0 : Int), (0 : Int), ()) : Int × Int × Int × Int × Unit) : Int × Int × Int × Int × Unit)) = false → (!!deq (Ty.prod (Ty.int IntKind.i64) (Ty.prod (Ty.int IntKind.i64) (Ty.prod (Ty.int IntKind.i64) (Ty.prod (Ty.int IntKind.i64) Ty.unit)))) ((((findF x0).1.1, (findF x0).1.2.1, (findF x0).1.2.2.1, (findF x0).1.2.2.2.1, ()) : Int × Int × Int × Int × Unit) : Int × Int × Int × Int × Unit) ((((0 : Int), (0 : Int), (0 : Int), (0 : Int), ()) : Int × Int × Int × Int × Unit) : Int × Int × Int × Int × Unit)) = true) (bif bif !deq (Ty.prod (Ty.int IntKind.i64) (Ty.prod (Ty.int IntKind.i64) (Ty.prod (Ty.int IntKind.i64) (Ty.prod (Ty.int IntKind.i64) Ty.unit)))) ((((findF x0).1.1, (findF x0).1.2.1, (findF x0).1.2.2.1, (findF x0).1.2.2.2.1, ()) : Int × Int × Int × Int × Unit) : Int × Int × Int × Int × Unit) ((((0 : Int), (0 : Int), (0 : Int), (0 : Int), ()) : Int × Int × Int × Int × Unit) : Int × Int × Int × Int × Unit) then true else !ieq (findF x0).2.1 (2 : Int) then some ((false, ()) : Bool × Unit) else gd ((!ilt x0 (1 : Int)) = true → (!ilt x0 (1 : Int)) = true) (gd (ilt x0 (1 : Int) = false → (!ilt x0 (1 : Int)) = true) (bif bif ilt x0 (1 : Int) then true else ilt (100 : Int) x0 then gd (ieq (↑(List.length (fourF x0).1) : Int) (0 : Int) = true → ieq (↑(List.length (fourF x0).1) : Int) (0 : Int) = true) (gd (ieq (↑(List.length (fourF x0).1) : Int) (0 : Int) = true → ieq (↑(List.length (fourF x0).1) : Int) (0 : Int) = true) (gd ((bif ieq (↑(List.length (fourF x0).1) : Int) (0 : Int) then ieq (fourF x0).2.1 (2 : Int) else false) = true → (bif ieq (↑(List.length (fourF x0).1) : Int) (0 : Int) then ieq (fourF x0).2.1 (2 : Int) else false) = true) (some ((bif bif ieq (↑(List.length (fourF x0).1) : Int) (0 : Int) then ieq (fourF x0).2.1 (2 : Int) else false then true else false, ()) : Bool × Unit)))) else gd ((1 : Int) ≤ x0 ∧ x0 ≤ (100 : Int)) (gd (List.length (fourF x0).1 ≤ (1000000000 : Nat)) (gd (eqFour (fourF x0).1 (fourR x0) = true → eqFour (fourF x0).1 (fourR x0) = true) (gd (eqFour (fourF x0).1 (fourR x0) = true → eqFour (fourF x0).1 (fourR x0) = true) (gd ((bif eqFour (fourF x0).1 (fourR x0) then ieq (fourF x0).2.1 (0 : Int) else false) = true → (bif eqFour (fourF x0).1 (fourR x0) then ieq (fourF x0).2.1 (0 : Int) else false) = true) (some ((bif bif eqFour (fourF x0).1 (fourR x0) then ieq (fourF x0).2.1 (0 : Int) else false then true else false, ()) : Bool × Unit))))))))))) else gd (is135 x0 = true) (gd ((4 : Nat) ≤ (4 : Nat)) (gd ((4 : Nat) ≤ (4 : Nat)) (gd ((4 : Nat) ≤ (4 : Nat)) (gd ((!!deq (Ty.prod (Ty.int IntKind.i64) (Ty.prod (Ty.int IntKind.i64) (Ty.prod (Ty.int IntKind.i64) (Ty.prod (Ty.int IntKind.i64) Ty.unit)))) ((((findF x0).1.1, (findF x0).1.2.1, (findF x0).1.2.2.1, (findF x0).1.2.2.2.1, ()) : Int × Int × Int × Int × Unit) : Int × Int × Int × Int × Unit) ((((findR x0).1.1, (findR x0).1.2.1, (findR x0).1.2.2.1, (findR x0).1.2.2.2.1, ()) : Int × Int × Int × Int × Unit) : Int × Int × Int × Int × Unit)) = true → (!!deq (Ty.prod (Ty.int IntKind.i64) (Ty.prod (Ty.int IntKind.i64) (Ty.prod (Ty.int IntKind.i64) (Ty.prod (Ty.int IntKind.i64) Ty.unit)))) ((((findF x0).1.1, (findF x0).1.2.1, (findF x0).1.2.2.1, (findF x0).1.2.2.2.1, ()) : Int × Int × Int × Int × Unit) : Int × Int × Int × Int × Unit) ((((findR x0).1.1, (findR x0).1.2.1, (findR x0).1.2.2.1, (findR x0).1.2.2.2.1, ()) : Int × Int × Int × Int × Unit) : Int × Int × Int × Int × Unit)) = true ∧ (!!deq (Ty.prod (Ty.int IntKind.i64) (Ty.prod (Ty.int IntKind.i64) (Ty.prod (Ty.int IntKind.i64) (Ty.prod (Ty.int IntKind.i64) Ty.unit)))) ((((findF x0).1.1, (findF x0).1.2.1, (findF x0).1.2.2.1, (findF x0).1.2.2.2.1, ()) : Int × Int × Int × Int × Unit) : Int × Int × Int × Int × Unit) ((((findR x0).1.1, (findR x0).1.2.1, (findR x0).1.2.2.1, (findR x0).1.2.2.2.1, ()) : Int × Int × Int × Int × Unit) : Int × Int × Int × Int × Unit)) = true) (gd ((!deq (Ty.prod (Ty.int IntKind.i64) (Ty.prod (Ty.int IntKind.i64) (Ty.prod (Ty.int IntKind.i64) (Ty.prod (Ty.int IntKind.i64) Ty.unit)))) ((((findF x0).1.1, (findF x0).1.2.1, (findF x0).1.2.2.1, (findF x0).1.2.2.2.1, ()) : Int × Int × Int × Int × Unit) : Int × Int × Int × Int × Unit) ((((findR x0).1.1, (findR x0).1.2.1, (findR x0).1.2.2.1, (findR x0).1.2.2.2.1, ()) : Int × Int × Int × Int × Unit) : Int × Int × Int × Int × Unit)) = false → (!!deq (Ty.prod (Ty.int IntKind.i64) (Ty.prod (Ty.int IntKind.i64) (Ty.prod (Ty.int IntKind.i64) (Ty.prod (Ty.int IntKind.i64) Ty.unit)))) ((((findF x0).1.1, (findF x0).1.2.1, (findF x0).1.2.2.1, (findF x0).1.2.2.2.1, ()) : Int × Int × Int × Int × Unit) : Int × Int × Int × Int × Unit) ((((findR x0).1.1, (findR x0).1.2.1, (findR x0).1.2.2.1, (findR x0).1.2.2.2.1, ()) : Int × Int × Int × Int × Unit) : Int × Int × Int × Int × Unit)) = true) (bif bif !deq (Ty.prod (Ty.int IntKind.i64) (Ty.prod (Ty.int IntKind.i64) (Ty.prod (Ty.int IntKind.i64) (Ty.prod (Ty.int IntKind.i64) Ty.unit)))) ((((findF x0).1.1, (findF x0).1.2.1, (findF x0).1.2.2.1, (findF x0).1.2.2.2.1, ()) : Int × Int × Int × Int × Unit) : Int × Int × Int × Int × Unit) ((((findR x0).1.1, (findR x0).1.2.1, (findR x0).1.2.2.1, (findR x0).1.2.2.2.1, ()) : Int × Int × Int × Int × Unit) : Int × Int × Int × Int × Unit) then true else !ieq (findF x0).2.1 (findR x0).2.1 then some ((false, ()) : Bool × Unit) else gd ((!ilt x0 (1 : Int)) = true → (!ilt x0 (1 : Int)) = true) (gd (ilt x0 (1 : Int) = false → (!ilt x0 (1 : Int)) = true) (bif bif ilt x0 (1 : Int) then true else ilt (100 : Int) x0 then gd (ieq (↑(List.length (fourF x0).1) : Int) (0 : Int) = true → ieq (↑(List.length (fourF x0).1) : Int) (0 : Int) = true) (gd (ieq (↑(List.length (fourF x0).1) : Int) (0 : Int) = true → ieq (↑(List.length (fourF x0).1) : Int) (0 : Int) = true) (gd ((bif ieq (↑(List.length (fourF x0).1) : Int) (0 : Int) then ieq (fourF x0).2.1 (2 : Int) else false) = true → (bif ieq (↑(List.length (fourF x0).1) : Int) (0 : Int) then ieq (fourF x0).2.1 (2 : Int) else false) = true) (some ((bif bif ieq (↑(List.length (fourF x0).1) : Int) (0 : Int) then ieq (fourF x0).2.1 (2 : Int) else false then true else false, ()) : Bool × Unit)))) else gd ((1 : Int) ≤ x0 ∧ x0 ≤ (100 : Int)) (gd (List.length (fourF x0).1 ≤ (1000000000 : Nat)) (gd (eqFour (fourF x0).1 (fourR x0) = true → eqFour (fourF x0).1 (fourR x0) = true) (gd (eqFour (fourF x0).1 (fourR x0) = true → eqFour (fourF x0).1 (fourR x0) = true) (gd ((bif eqFour (fourF x0).1 (fourR x0) then ieq (fourF x0).2.1 (0 : Int) else false) = true → (bif eqFour (fourF x0).1 (fourR x0) then ieq (fourF x0).2.1 (0 : Int) else false) = true) (some ((bif bif eqFour (fourF x0).1 (fourR x0) then ieq (fourF x0).2.1 (0 : Int) else false then true else false, ()) : Bool × Unit)))))))))))))))))))
noncomputable def g10_sh : List LSh := ([] : List LSh)


end Go.Signs

set_option linter.unusedVariables false
set_option linter.unusedSimpArgs false
namespace Go.Signs
open Go Go.Ab Go.Proofs

theorem val_zero : ∀ {m : Int}, valQ (m, (0, 0, 0, 0, ()), ()) = is135 m := by
  intro m
  cases h : is135 m with
  | true => rcases is135_iff.1 h with rfl | rfl | rfl <;> decide
  | false => simp [valQ, h]

theorem goal46 : con46.goal Try.prog (spS [con81 5] [con73, con74]) g46_sh [] lm30 := by
  have e : (∀ (m : Int), g46 m = some (findF m)) = con46.goal Try.prog (spS [con81 5] [con73, con74]) g46_sh [] lm30 := by kernel_rfl
  rw [← e]
  intro m
  unfold g46 findF
  rw [gd_pos (by omega), gd_pos (by omega), val_zero]
  cases h : is135 m with
  | false => rw [cond_t (by rfl), gd_pos (by omega), gd_pos (by omega), if_neg (by decide)]
  | true =>
    have hi := growF_inv (m := m) 5 0 [m, 0, 0, 0, 0]
    rw [cond_f (by rfl), gd_pos ⟨h, by omega, by omega, by omega, rfl, rfl⟩, if_pos rfl]
    cases hb : (growF m 5 0 [m, 0, 0, 0, 0]).1 with
    | false => rw [cond_t (by rfl), gd_pos (by omega), gd_pos (by omega), if_neg (by decide)]
    | true =>
      rw [cond_f (by rfl), gd_pos (by rw [hi.1]; exact Nat.le_refl 5), gd_pos (by omega), gd_pos (by omega), if_pos rfl]
      rfl
set_option maxRecDepth 100000 in
theorem ok46 : con46.Ok Try.prog := Con.of_goalS mixed (okC ok73 (okC ok74 okN)) (okS (ok81 5) okS0) con46 goal46

theorem goal47 : con47.goal Try.prog (spS [con82 5] []) g47_sh [] lm30 := by
  have e : (∀ (n : Int), g47 n = some (fourF n)) = con47.goal Try.prog (spS [con82 5] []) g47_sh [] lm30 := by kernel_rfl
  rw [← e]
  intro n
  have key : (bif ilt n 1 then true else ilt 100 n) = !decide (1 ≤ n ∧ n ≤ 100) := by
    rw [ilt_d, ilt_d]
    by_cases h1 : n < 1 <;> by_cases h2 : 100 < n <;> simp [h1, h2] <;> omega
  unfold g47 fourF
  by_cases h : 1 ≤ n ∧ n ≤ 100
  · rw [key, if_pos h, wr_id (n := 4 * n) (by omega)]
    simp only [h, decide_true, Bool.not_true, cond_false, gd_true]
    have hp : pre4 5 0 1 (4 * n) [0, 0, 0, 0] [] := ⟨by omega, by omega, by omega, by omega, by omega, by omega, by omega, rfl, by decide⟩
    have h1 := h.1
    have h2 := h.2
    have b1 : ilt n 1 = false := by rw [ilt_d]; simp; omega
    have b2 : ilt 100 n = false := by rw [ilt_d]; simp; omega
    simp [hp, gd_true, b1, b2, h1, h2]
  · rw [key, if_neg h]
    have b : decide (1 ≤ n ∧ n ≤ 100) = false := decide_eq_false h
    rw [b]
    have b1 : ilt n 1 = false → ilt 100 n = true := fun h1 => by rw [ilt_d] at h1 ⊢; simp at h1 ⊢; omega
    simp [gd_true]
set_option maxRecDepth 100000 in
theorem ok47 : con47.Ok Try.prog := Con.of_goalS mixed okN (okS (ok82 5) okS0) con47 goal47

theorem goal49 : con49.goal Try.prog (spOf []) g49_sh [] lm30 := by
  have e : (∀ (a b : List A4D), a.length ≤ 1000000000 → g49 a b = some (eqFour a b, ())) = con49.goal Try.prog (spOf []) g49_sh [] lm30 := by kernel_rfl
  rw [← e]
  intro a b hl
  unfold g49
  by_cases h : a.length = b.length
  · rw [cond_f (by simp [ieq_d, h])]
    have hb : eqFour a b = true ↔ ∀ i, 0 ≤ i → i < a.length → deq (Ty.prod (Ty.int .i64) (Ty.prod (Ty.int .i64) (Ty.prod (Ty.int .i64) (Ty.prod (Ty.int .i64) Ty.unit)))) (a.getD i (0, 0, 0, 0, ()) : A4D) (b.getD i (0, 0, 0, 0, ()) : A4D) = true := by
      unfold eqFour
      rw [decide_eq_true_iff]
      constructor
      · rintro rfl i _ _; exact (deq_iff (t := A4) rfl).2 rfl
      · intro hh
        refine List.ext_getElem h fun i h1 h2 => ?_
        have := (deq_iff (t := A4) rfl).1 (hh i (Nat.zero_le _) h1)
        rw [List.getD_eq_getElem?_getD, List.getD_eq_getElem?_getD, List.getElem?_eq_getElem h1, List.getElem?_eq_getElem h2] at this
        exact this
    have := whileO_chk (st := fun i => (((i : Nat) : Int), ())) (lo := 0) (hi := a.length) (x := (false, ())) (y := (true, ())) (Nat.zero_le _) hb (step := fun (d2 : Int × Unit) => bif ilt d2.1 (↑(List.length a)) then gd ((0 : Int) ≤ d2.1 ∧ d2.1 < (↑(List.length a))) (gd ((0 : Int) ≤ d2.1 ∧ d2.1 < (↑(List.length b))) (bif !deq (Ty.prod (Ty.int .i64) (Ty.prod (Ty.int .i64) (Ty.prod (Ty.int .i64) (Ty.prod (Ty.int .i64) Ty.unit)))) (List.getD a (Int.toNat d2.1) ((((0 : Int), (0 : Int), (0 : Int), (0 : Int), ()) : A4D)) : A4D) (List.getD b (Int.toNat d2.1) ((((0 : Int), (0 : Int), (0 : Int), (0 : Int), ()) : A4D)) : A4D) then some (Lp.out ((false, ()) : Bool × Unit)) else some (Lp.go ((wr .i64 (d2.1 + (1 : Int)), ()) : Int × Unit)))) else some (Lp.out ((true, ()) : Bool × Unit))) (fun i _ hi => by
      have b1 : ilt (i : Int) (a.length : Int) = true := by rw [ilt_d]; simp [hi]
      simp only [b1, cond_t, gd_pos (show (0 : Int) ≤ i ∧ (i : Int) < a.length by omega), gd_pos (show (0 : Int) ≤ i ∧ (i : Int) < b.length by omega), Int.toNat_natCast, wr_id (show -9223372036854775808 ≤ (i : Int) + 1 ∧ (i : Int) + 1 ≤ 9223372036854775807 by omega)]
      have ec : ((i : Int) + 1) = ((i + 1 : Nat) : Int) := by omega
      rw [ec]
      generalize deq (Ty.prod (Ty.int .i64) (Ty.prod (Ty.int .i64) (Ty.prod (Ty.int .i64) (Ty.prod (Ty.int .i64) Ty.unit)))) (a.getD i (0, 0, 0, 0, ()) : A4D) (b.getD i (0, 0, 0, 0, ()) : A4D) = q
      cases q <;> rfl) (by
      have b1 : ilt (a.length : Int) (a.length : Int) = false := by rw [ilt_d]; simp
      simp only [b1, cond_f])
    refine this.trans ?_
    cases eqFour a b <;> rfl
  · rw [cond_t (by simp [ieq_d]; omega)]
    unfold eqFour
    rw [decide_eq_false (fun hh => h (by rw [hh]))]
set_option maxRecDepth 100000 in
theorem ok49 : con49.Ok Try.prog := Con.of_goal mixed okN con49 goal49

/-! ### The reference of Four -/
section
variable {n : Int}
theorem ile_19 {x : Int} (h : x ≤ 19) : ile x 19 = true := by simp [ile]; omega
theorem ile_19f {x : Int} (h : 19 < x) : ile x 19 = false := by simp [ile]; omega
theorem sq_bd {x : Int} (h1 : 1 ≤ x) (h2 : x ≤ 19) : 0 ≤ x * x ∧ x * x ≤ 361 := ⟨Int.mul_nonneg (by omega) (by omega), Int.mul_le_mul h2 h2 (by omega) (by omega)⟩
abbrev St5 := Int × List A4D × Unit
theorem cnt_eq {x : Int} (h : x % 2 = 1) (h2 : x ≤ 21) : x + 2 * (cnt x : Int) = 21 := by unfold cnt; omega

theorem in50a (hn : 1 ≤ n ∧ n ≤ 100) {a b c : Int} (ha : 1 ≤ a ∧ a ≤ 19) (hb : 1 ≤ b ∧ b ≤ 19) (hc : 1 ≤ c ∧ c ≤ 19 ∧ c % 2 = 1) {oa ob oc : List A4D} (ho : oc.length + 10 * 1 ≤ 100000) :
    whileO (g50_l0 n ((a, oa, ()) : St5) ((b, ob, ()) : St5) ((c, oc, ()) : St5)) ((c, oc, ()) : St5) = some (Lp.go ((c + 2, refG n 1 [a, b, c] c oc, ()) : St5)) := by
  have hcnt : cnt c ≤ 10 := by unfold cnt; omega
  refine loopR_while (f := fun x o => refG n 0 ([a, b, c] ++ [x]) x o) (y := fun o => Lp.go ((c + 2, o, ()) : St5)) (K := 1) (M := 100000) (fun x out _ => ?_) (fun x out h1 h19 _ hl => ?_) (fun x out h19 => ?_) (cnt c) c oc (cnt_eq hc.2.2 (by omega)) hc.1 (by omega)
  · simp only [refG]; split <;> simp
  · have e1 := sq_bd ha.1 ha.2
    have e2 := sq_bd hb.1 hb.2
    have e3 := sq_bd hc.1 hc.2.1
    have e4 := sq_bd h1 h19
    have es : sumsq ([a, b, c] ++ [x]) = a * a + b * b + c * c + x * x := by simp [sumsq]
    have w1 : wr .i64 (a * a) = a * a := wr_id (by omega)
    have w2 : wr .i64 (b * b) = b * b := wr_id (by omega)
    have w3 : wr .i64 (c * c) = c * c := wr_id (by omega)
    have w4 : wr .i64 (x * x) = x * x := wr_id (by omega)
    have w5 : wr .i64 (a * a + b * b) = a * a + b * b := wr_id (by omega)
    have w6 : wr .i64 (a * a + b * b + c * c) = a * a + b * b + c * c := wr_id (by omega)
    have w7 : wr .i64 (a * a + b * b + c * c + x * x) = a * a + b * b + c * c + x * x := wr_id (by omega)
    have w8 : wr .i64 (4 * n) = 4 * n := wr_id (by omega)
    have w9 : wr .i64 (x + 2) = x + 2 := wr_id (by omega)
    unfold g50_l0
    simp only [refG, es]
    rw [cond_t (ile_19 h19), w1, w2, w3, w4, w5, w6, w7, w8, w9]
    by_cases h : a * a + b * b + c * c + x * x = 4 * n
    · rw [cond_t (by rw [ieq_d]; simp [h]), gd_pos (Nat.le_refl _), gd_pos (by omega), gd_pos (by simp), if_pos h, List.take_length]
      rfl
    · rw [cond_f (by rw [ieq_d]; simp [h]), gd_true, if_neg h]
  · unfold g50_l0
    have w9 : wr .i64 (c + 2) = c + 2 := wr_id (by omega)
    simp only [cond_f (ile_19f h19), gd_true, w9]

theorem in50b (hn : 1 ≤ n ∧ n ≤ 100) {a b : Int} (ha : 1 ≤ a ∧ a ≤ 19) (hb : 1 ≤ b ∧ b ≤ 19 ∧ b % 2 = 1) {oa ob : List A4D} (ho : ob.length + 100 ≤ 90000) :
    whileO (g50_l1 n ((a, oa, ()) : St5) ((b, ob, ()) : St5)) ((b, ob, ()) : St5) = some (Lp.go ((b + 2, refG n 2 [a, b] b ob, ()) : St5)) := by
  have hcnt : cnt b ≤ 10 := by unfold cnt; omega
  refine loopR_while (f := fun x o => refG n 1 ([a, b] ++ [x]) x o) (y := fun o => Lp.go ((b + 2, o, ()) : St5)) (K := 10) (M := 90000) (fun x out h => refG_len 1 _ _ _ h) (fun x out h1 h19 h2 hl => ?_) (fun x out h19 => ?_) (cnt b) b ob (cnt_eq hb.2.2 (by omega)) hb.1 (by omega)
  · unfold g50_l1
    simp only [cond_t (ile_19 h19), gd_true]
    exact in50a hn ha ⟨hb.1, hb.2.1⟩ ⟨h1, h19, h2⟩ (by omega)
  · unfold g50_l1
    have w9 : wr .i64 (b + 2) = b + 2 := wr_id (by omega)
    simp only [cond_f (ile_19f h19), gd_true, w9]

theorem in50c (hn : 1 ≤ n ∧ n ≤ 100) {a : Int} (ha : 1 ≤ a ∧ a ≤ 19 ∧ a % 2 = 1) {oa : List A4D} (ho : oa.length + 1000 ≤ 80000) :
    whileO (g50_l2 n ((a, oa, ()) : St5)) ((a, oa, ()) : St5) = some (Lp.go ((a + 2, refG n 3 [a] a oa, ()) : St5)) := by
  have hcnt : cnt a ≤ 10 := by unfold cnt; omega
  refine loopR_while (f := fun x o => refG n 2 ([a] ++ [x]) x o) (y := fun o => Lp.go ((a + 2, o, ()) : St5)) (K := 100) (M := 80000) (fun x out h => refG_len 2 _ _ _ h) (fun x out h1 h19 h2 hl => ?_) (fun x out h19 => ?_) (cnt a) a oa (cnt_eq ha.2.2 (by omega)) ha.1 (by omega)
  · unfold g50_l2
    simp only [cond_t (ile_19 h19), gd_true]
    exact in50b hn ⟨ha.1, ha.2.1⟩ ⟨h1, h19, h2⟩ (by omega)
  · unfold g50_l2
    have w9 : wr .i64 (a + 2) = a + 2 := wr_id (by omega)
    simp only [cond_f (ile_19f h19), gd_true, w9]

theorem goal50 : con50.goal Try.prog (spOf []) g50_sh [] lm30 := by
  have e : (∀ (n : Int), 1 ≤ n ∧ n ≤ 100 → g50 n = some (fourR n, ())) = con50.goal Try.prog (spOf []) g50_sh [] lm30 := by kernel_rfl
  rw [← e]
  intro n hn
  unfold g50 fourR
  rw [gd_pos rfl]
  refine loopR_while (f := fun x o => refG n 3 ([] ++ [x]) x o) (y := fun o => (o, ())) (K := 1000) (M := 70000) (fun x out h => refG_len 3 _ _ _ h) (fun x out h1 h19 h2 hl => ?_) (fun x out h19 => ?_) (cnt 1) 1 [] (by decide) (by decide) (by decide)
  · simp only [cond_t (ile_19 h19), gd_true]
    exact in50c hn ⟨h1, h19, h2⟩ (by omega)
  · simp only [cond_f (ile_19f h19)]
    rw [gd_pos (by omega), List.drop_zero, List.take_length]
set_option maxRecDepth 100000 in
theorem ok50 : con50.Ok Try.prog := Con.of_goal mixed okN con50 goal50
end
end Go.Signs

set_option linter.unusedVariables false
set_option linter.unusedSimpArgs false
namespace Go.Signs
open Go Go.Ab Go.Proofs

section
variable {m : Int}
theorem dig_bits (hm : is135 m = true) {n : Nat} (hn : n < 1048576) {i : Nat} (hi : i < 4) : iand .i64 (ishr .i64 (n : Int) (wr .i64 (wr .i64 (3 - (i : Int)) * m))) (wr .i64 (ishl .i64 1 m - 1)) = dig m n i := by
  have hm' := is135_iff.1 hm
  obtain ⟨M, rfl⟩ : ∃ M : Nat, m = M := ⟨m.toNat, by omega⟩
  have hM : M ≤ 5 := by omega
  have e0 : (3 - i) * M ≤ 3 * 5 := Nat.mul_le_mul (by omega) hM
  have e1 : wr .i64 (wr .i64 (3 - (i : Int)) * (M : Int)) = (((3 - i) * M : Nat) : Int) := by
    rw [wr_id (n := 3 - (i : Int)) (by omega), show (3 - (i : Int)) = ((3 - i : Nat) : Int) by omega, ← Int.natCast_mul]
    exact wr_id (by omega)
  have e2 : wr .i64 (ishl .i64 1 (M : Int) - 1) = ((2 ^ M - 1 : Nat) : Int) := by
    have h : M = 1 ∨ M = 3 ∨ M = 5 := by omega
    rcases h with rfl | rfl | rfl <;> decide
  have e3 : 2 ^ M - 1 < 9223372036854775808 := by
    have : 2 ^ M ≤ 2 ^ 5 := Nat.pow_le_pow_right (by omega) hM
    omega
  have e4 : n / 2 ^ ((3 - i) * M) < 9223372036854775808 := by
    have := Nat.div_le_self n (2 ^ ((3 - i) * M))
    omega
  rw [e1, e2, ishr_nat (by omega), iand_nat e4 e3, Nat.and_two_pow_sub_one_eq_mod]
  rfl

abbrev St48 := Bool × Int × List Int × List Int × Unit
abbrev Z4 : List Int := [0, 0, 0, 0]
theorem st48 (hm : is135 m = true) {n : Nat} (hn : n < 1048576) {R : List Int} {i : Nat} (hi : i < 4) {b : Bool} {s : List Int} (hs : s.length = 4) :
    g48_l0 m (((n : Int), R, ()) : Int × List Int × Unit) ((b, (i : Int), R, s, ()) : St48) = some (Lp.go ((b && seqB m (dig m n i), ((i + 1 : Nat) : Int), R, s.set i (dig m n i), ()) : St48)) := by
  have hm' := is135_iff.1 hm
  have hb1 : ilt (i : Int) 4 = true := by rw [ilt_d]; simp; omega
  have hd := dig_bits hm hn hi
  have h3 : wr .i64 (3 - (i : Int)) = 3 - (i : Int) := wr_id (by omega)
  have h4 : 0 ≤ wr .i64 (wr .i64 (3 - (i : Int)) * m) := by
    rw [h3]
    rcases hm' with rfl | rfl | rfl <;> rw [wr_id (by omega)] <;> omega
  have h5 : wr .i64 ((i : Int) + 1) = ((i + 1 : Nat) : Int) := by rw [wr_id (by omega)]; omega
  have h6 : (0 : Nat) + (i : Int).toNat * 1 = i := by omega
  unfold g48_l0
  simp only [hd, h6]
  rw [cond_t hb1, gd_pos h4, gd_pos (by omega), gd_pos (by omega), gd_pos (by omega), gd_pos (fun h => ⟨h, by omega⟩), gd_pos (fun h => ⟨h, by rw [List.length_set]; omega⟩), gd_pos (fun h => ⟨h, h⟩), gd_pos (fun h => h), h5, getD_set (by omega), if_pos rfl, hm]
  cases b <;> rfl

theorem end48 {m : Int} {n : Nat} (hn : n < 1048576) {b : Bool} {d0 d1 d2 d3 : Int} (hb : b = true → valQ (m, (d0, d1, d2, d3, ()), ()) = true) :
    g48_l0 m (((n : Int), Z4, ()) : Int × List Int × Unit) ((b, 4, Z4, [d0, d1, d2, d3], ()) : St48) = some (if b = true ∧ goodF (m, (d0, d1, d2, d3, ()), ()) = true then Lp.out (Lp.out (((d0, d1, d2, d3, ()), 0, ()) : A4D × Int × Unit)) else Lp.out (Lp.go ((((n + 1 : Nat) : Int), Z4, ()) : Int × List Int × Unit))) := by
  have h5 : wr .i64 ((n : Int) + 1) = ((n + 1 : Nat) : Int) := by rw [wr_id (by omega)]; omega
  unfold g48_l0
  simp only [h5]
  simp only [List.getD_cons_zero, List.getD_cons_succ]
  rw [cond_f (by decide), gd_pos (by intro _; exact Nat.le_refl 4), gd_pos (fun h => ⟨h, h, hb h⟩), gd_pos (fun h => h)]
  cases b with
  | false => rfl
  | true =>
    cases h : goodF (m, (d0, d1, d2, d3, ()), ()) with
    | true =>
      rw [if_pos ⟨rfl, rfl⟩]
      exact (gd_pos (Nat.le_refl 4)).trans ((gd_pos (Nat.le_refl 4)).trans ((gd_pos (Nat.le_refl 4)).trans rfl))
    | false => rfl

theorem in48 (hm : is135 m = true) {n : Nat} (hn : n < 1048576) : whileO (g48_l0 m (((n : Int), Z4, ()) : Int × List Int × Unit)) ((true, 0, Z4, Z4, ()) : St48) = some (if goodN m n = true then Lp.out ((digs m n, 0, ()) : A4D × Int × Unit) else Lp.go ((((n + 1 : Nat) : Int), Z4, ()) : Int × List Int × Unit)) := by
  refine (whileO_go (st48 hm hn (R := Z4) (i := 0) (by omega) (b := true) (s := Z4) rfl)).trans ?_
  refine (whileO_go (st48 hm hn (i := 1) (by omega) (by rfl))).trans ?_
  refine (whileO_go (st48 hm hn (i := 2) (by omega) (by rfl))).trans ?_
  refine (whileO_go (st48 hm hn (i := 3) (by omega) (by rfl))).trans ?_
  have hv : (true && seqB m (dig m n 0) && seqB m (dig m n 1) && seqB m (dig m n 2) && seqB m (dig m n 3)) = valQ (m, digs m n, ()) := by
    simp [valQ, hm, l4, digs, Bool.and_assoc]
  have he := end48 (m := m) hn (b := (true && seqB m (dig m n 0) && seqB m (dig m n 1) && seqB m (dig m n 2) && seqB m (dig m n 3))) (d0 := dig m n 0) (d1 := dig m n 1) (d2 := dig m n 2) (d3 := dig m n 3) (fun h => by rw [hv] at h; exact h)
  rw [hv] at he
  have hg : (valQ (m, digs m n, ()) = true ∧ goodF (m, (dig m n 0, dig m n 1, dig m n 2, dig m n 3, ()), ()) = true) ↔ goodN m n = true := by
    unfold goodN
    rw [Bool.and_eq_true]
    exact Iff.rfl
  rw [hv]
  by_cases h : goodN m n = true
  · rw [if_pos (hg.2 h)] at he
    rw [if_pos h]
    exact whileO_out he
  · rw [if_neg (fun hh => h (hg.1 hh))] at he
    rw [if_neg h]
    exact whileO_out he

theorem goal48 : con48.goal Try.prog (spOf [con37, con38]) g48_sh [] lm30 := by
  have e : (∀ (m : Int), is135 m = true → g48 m = some (findR m)) = con48.goal Try.prog (spOf [con37, con38]) g48_sh [] lm30 := by kernel_rfl
  rw [← e]
  intro m hm
  have hm' := is135_iff.1 hm
  have e1 : wr .i64 (4 * m) = 4 * m := wr_id (by omega)
  have e2 : ishl .i64 1 (4 * m) = ((2 ^ (4 * m.toNat) : Nat) : Int) := by rcases hm' with rfl | rfl | rfl <;> decide
  have e3 : 2 ^ (4 * m.toNat) ≤ 1048576 := by rcases hm' with rfl | rfl | rfl <;> decide
  unfold g48 findR
  rw [e1, gd_pos (by omega), e2]
  generalize 2 ^ (4 * m.toNat) = N at e3 ⊢
  have key : ∀ (c n : Nat), n + c = N → whileO (fun (d1 : Int × List Int × Unit) => bif ilt d1.1 (N : Int) then whileO (g48_l0 m d1) ((true, (0 : Int), d1.2.1, (0 : Int) :: (0 : Int) :: (0 : Int) :: (0 : Int) :: ([] : List Int), ()) : Bool × Int × List Int × List Int × Unit) else gd ((4 : Nat) ≤ List.length d1.2.1) (gd ((4 : Nat) ≤ List.length (setMany d1.2.1 (0 : Nat) ((0 : Int) :: (0 : Int) :: (0 : Int) :: (0 : Int) :: ([] : List Int)))) (some (Lp.out ((((List.getD (setMany d1.2.1 (0 : Nat) ((0 : Int) :: (0 : Int) :: (0 : Int) :: (0 : Int) :: ([] : List Int))) (0 : Nat) (0 : Int), List.getD (setMany d1.2.1 (0 : Nat) ((0 : Int) :: (0 : Int) :: (0 : Int) :: (0 : Int) :: ([] : List Int))) (1 : Nat) (0 : Int), List.getD (setMany d1.2.1 (0 : Nat) ((0 : Int) :: (0 : Int) :: (0 : Int) :: (0 : Int) :: ([] : List Int))) (2 : Nat) (0 : Int), List.getD (setMany d1.2.1 (0 : Nat) ((0 : Int) :: (0 : Int) :: (0 : Int) :: (0 : Int) :: ([] : List Int))) (3 : Nat) (0 : Int), ()) : Int × Int × Int × Int × Unit), (4 : Int), ()) : (Int × Int × Int × Int × Unit) × Int × Unit))))) (((n : Int), Z4, ()) : Int × List Int × Unit) = some (match seekN m c n with | some r => (digs m r, 0, ()) | none => ((0, 0, 0, 0, ()), 4, ())) := by
    intro c
    induction c with
    | zero =>
      intro n hn
      have hb : ilt (n : Int) (N : Int) = false := by rw [ilt_d]; simp; omega
      refine whileO_out ?_
      simp only [cond_f hb]
      exact (gd_pos (Nat.le_refl 4)).trans ((gd_pos (Nat.le_refl 4)).trans rfl)
    | succ c ih =>
      intro n hn
      have hb : ilt (n : Int) (N : Int) = true := by rw [ilt_d]; simp; omega
      have hi := in48 hm (n := n) (by omega)
      simp only [seekN]
      by_cases h : goodN m n = true
      · rw [if_pos h] at hi ⊢
        refine whileO_out ?_
        simp only [cond_t hb]
        exact hi
      · rw [if_neg h] at hi ⊢
        refine (whileO_go (s' := (((n + 1 : Nat) : Int), Z4, ())) ?_).trans (ih (n + 1) (by omega))
        simp only [cond_t hb]
        exact hi
  exact key N 0 (by omega)
set_option maxRecDepth 100000 in
theorem ok48 : con48.Ok Try.prog := Con.of_goal mixed (okC ok37 (okC ok38 okN)) con48 goal48
end
end Go.Signs

set_option linter.unusedVariables false
set_option linter.unusedSimpArgs false
namespace Go.Signs
open Go Go.Ab Go.Proofs

theorem deq4 {x : A4D} : deq (Ty.prod (Ty.int .i64) (Ty.prod (Ty.int .i64) (Ty.prod (Ty.int .i64) (Ty.prod (Ty.int .i64) Ty.unit)))) x x = true := (deq_iff (t := A4) rfl).2 rfl

theorem goal10 : con10.goal Try.prog (spOf [con46, con47, con48, con49, con50, con24]) g10_sh [] lm30 := by
  have e : (∀ (n : Int), g10 n = some (true, ())) = con10.goal Try.prog (spOf [con46, con47, con48, con49, con50, con24]) g10_sh [] lm30 := by kernel_rfl
  rw [← e]
  intro n
  have hF : findF n = if is135 n = true then findR n else ((0, 0, 0, 0, ()), 2, ()) := by
    unfold findF
    by_cases h : is135 n = true
    · rw [if_pos h, if_pos h, ← findX_eq]; rfl
    · rw [if_neg h, if_neg h]
  have hG : fourF n = if 1 ≤ n ∧ n ≤ 100 then (fourR n, 0, ()) else ([], 2, ()) := by
    unfold fourF
    by_cases h : 1 ≤ n ∧ n ≤ 100
    · rw [if_pos h, if_pos h, four_eq h]
    · rw [if_neg h, if_neg h]
  have hl : (fourR n).length ≤ 1000000000 := by
    have := refG_len (n := n) 4 [] 1 [] (by decide)
    simp only [List.length_nil] at this
    unfold fourR
    omega
  have hb : (bif ilt n 1 then true else ilt 100 n) = !decide (1 ≤ n ∧ n ≤ 100) := by
    rw [ilt_d, ilt_d]
    by_cases h1 : n < 1 <;> by_cases h2 : 100 < n <;> simp [h1, h2] <;> omega
  have he : eqFour (fourR n) (fourR n) = true := decide_eq_true rfl
  have d1 := deq4 (x := (0, 0, 0, 0, ()))
  have d2 := deq4 (x := (findR n).1)
  unfold g10
  rw [is135_d, hb, hF, hG]
  cases hm : is135 n with
  | true =>
    by_cases h : 1 ≤ n ∧ n ≤ 100
    · simp [gd_true, hm, h, d2, he, hl, ieq_d]
    · simp [gd_true, hm, h, d2, ieq_d]
  | false =>
    by_cases h : 1 ≤ n ∧ n ≤ 100
    · simp [gd_true, hm, h, d1, he, hl, ieq_d]
    · simp [gd_true, hm, h, d1, ieq_d]
set_option maxRecDepth 100000 in
theorem ok10 : con10.Ok Try.prog := Con.of_goal mixed (okC ok46 (okC ok47 (okC ok48 (okC ok49 (okC ok50 (okC ok24 okN)))))) con10 goal10
end Go.Signs
