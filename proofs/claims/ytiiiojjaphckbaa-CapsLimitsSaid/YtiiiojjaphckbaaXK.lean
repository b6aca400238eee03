/- Cards: contracts. -/
import Derived.Test.YtiiiojjaphckbaaProg
import Derived.Test.YtiiiojjaphckbaaAT
set_option linter.unusedVariables false
set_option linter.unusedSimpArgs false
namespace Go.Caps
open Go Go.Ab Go.Proofs

abbrev Deck : Ty := .prod I64 (.prod I64 .unit)
abbrev DeckD := Int × Int × Unit
def inC (n c : Int) : Bool := decide (0 ≤ c) && decide (c < n)
noncomputable def con93 : Con := mkC 93 [.d I64, .d (.ptr Deck)] [.bool] (fun (c : Int) (k : DeckD) => []) (fun (c : Int) (k : DeckD) => (!inC k.2.1 c, ()))
noncomputable def g93 (x0 : Int) (x1 : Int × Int × Unit) : Option (Bool × Unit) := gd ((!ilt x0 (0 : Int)) = true → (!ilt x0 (0 : Int)) = true) (gd ((!ilt x0 (0 : Int)) = true → (!ilt x0 (0 : Int)) = true ∧ (!ilt x0 (0 : Int)) = true) (gd (ilt x0 (0 : Int) = false → (!ilt x0 (0 : Int)) = true) (some ((bif ilt x0 (0 : Int) then true else ile x1.2.1 x0, ()) : Bool × Unit))))
noncomputable def g93_sh : List LSh := ([] : List LSh)
def ixNot (n : Int) : List Int → Int → Int
  | [], _ => -1
  | x :: l, i => if inC n x = true then ixNot n l (i + 1) else i
noncomputable def con98 : Con := mkC 98 [.d LI, .fn 93 [.ptr Deck]] [I64] (fun (l : List Int) (k : DeckD) => [small l]) (fun (l : List Int) (k : DeckD) => (ixNot k.2.1 l 0, ()))
noncomputable def g98 (x0 : List Int) (x1 : Int × Int × Unit) : Option (Int × Unit) := whileO (fun (d2 : (Int × Int × Unit) × Int × Unit) => bif ilt d2.2.1 (↑(List.length x0) : Int) then gd ((0 : Int) ≤ d2.2.1 ∧ d2.2.1 < (↑(List.length x0) : Int)) (bif !inC d2.1.2.1 (List.getD x0 (Int.toNat d2.2.1) (0 : Int)) then some (Lp.out ((d2.2.1, ()) : Int × Unit)) else some (Lp.go ((d2.1, wr IntKind.i64 (d2.2.1 + (1 : Int)), ()) : (Int × Int × Unit) × Int × Unit))) else some (Lp.out (((-1 : Int), ()) : Int × Unit))) ((x1, (0 : Int), ()) : (Int × Int × Unit) × Int × Unit)
noncomputable def g98_sh : List LSh := LSh.mk (((1, TV.fn (93) (TV.cons (TV.v (Ty.ptr (Ty.prod (Ty.int IntKind.i64) (Ty.prod (Ty.int IntKind.i64) Ty.unit)))) TV.nil)) : Nat × TV) :: ((8, TV.v (Ty.int IntKind.i64)) : Nat × TV) :: ([] : List (Nat × TV))) ([] : List TB) :: ([] : List LSh)
noncomputable def con72 : Con := mkC 72 [.d LI, .fn 93 [.ptr Deck]] [.bool] (fun (l : List Int) (k : DeckD) => [small l]) (fun (l : List Int) (k : DeckD) => (!l.all (inC k.2.1), ()))
noncomputable def g72 (x0 : List Int) (x1 : Int × Int × Unit) : Option (Bool × Unit) := gd (small x0) (some ((ile (0 : Int) (ixNot x1.2.1 x0 (0 : Int)), ()) : Bool × Unit))
noncomputable def g72_sh : List LSh := ([] : List LSh)
def sizeF (d : Int) : Int := if d = 1 then 3 else if d = 2 then 9 else if d = 3 then 27 else if d = 4 then 81 else 0
def isD (d : Int) : Bool := [1, 2, 3, 4].contains d
def readF (d : Int) (l : List Int) : DeckD × Bool × Unit := if isD d = true then ((d, sizeF d, ()), l.all (inC (sizeF d)), ()) else ((0, 0, ()), false, ())
noncomputable def con56 : Con := mkC 56 [.d I64, .d LI] [Deck, .bool] (fun (d : Int) (l : List Int) => [small l]) (fun (d : Int) (l : List Int) => readF d l)
noncomputable def g56 (x0 : Int) (x1 : List Int) : Option ((Int × Int × Unit) × Bool × Unit) := gd ((!ilt x0 (1 : Int)) = true → (!ilt x0 (1 : Int)) = true) (gd (ilt x0 (1 : Int) = false → (!ilt x0 (1 : Int)) = true) (bif bif ilt x0 (1 : Int) then true else ilt (4 : Int) x0 then gd ((2 : Nat) ≤ (2 : Nat)) (gd ((2 : Nat) ≤ (2 : Nat)) (some (((((0 : Int), (0 : Int), ()) : Int × Int × Unit), false, ()) : (Int × Int × Unit) × Bool × Unit))) else gd ((2 : Nat) ≤ (2 : Nat)) (whileO (fun (d2 : Int × List Int × List Int × Unit) => bif ilt d2.1 x0 then gd ((1 : Nat) < List.length d2.2.2.1) (gd ((1 : Nat) < List.length d2.2.2.1) (some (Lp.go ((wr IntKind.i64 (d2.1 + (1 : Int)), d2.2.1, List.set d2.2.2.1 (1 : Nat) (wr IntKind.i64 (List.getD d2.2.2.1 (1 : Nat) (0 : Int) * (3 : Int))), ()) : Int × List Int × List Int × Unit)))) else gd ((2 : Nat) ≤ List.length d2.2.2.1) (gd ((2 : Nat) ≤ List.length d2.2.2.1) (gd (small x1) (gd ((2 : Nat) ≤ List.length d2.2.1) (gd ((2 : Nat) ≤ List.length (setMany d2.2.1 (0 : Nat) (List.getD d2.2.2.1 (0 : Nat) (0 : Int) :: List.getD d2.2.2.1 (1 : Nat) (0 : Int) :: ([] : List Int)))) (some (Lp.out ((((List.getD (setMany d2.2.1 (0 : Nat) (List.getD d2.2.2.1 (0 : Nat) (0 : Int) :: List.getD d2.2.2.1 (1 : Nat) (0 : Int) :: ([] : List Int))) (0 : Nat) (0 : Int), List.getD (setMany d2.2.1 (0 : Nat) (List.getD d2.2.2.1 (0 : Nat) (0 : Int) :: List.getD d2.2.2.1 (1 : Nat) (0 : Int) :: ([] : List Int))) (1 : Nat) (0 : Int), ()) : Int × Int × Unit), !!List.all x1 (inC (List.getD d2.2.2.1 (1 : Nat) (0 : Int))), ()) : (Int × Int × Unit) × Bool × Unit)))))))) (((0 : Int), (0 : Int) :: (0 : Int) :: ([] : List Int), x0 :: (1 : Int) :: ([] : List Int), ()) : Int × List Int × List Int × Unit))))
noncomputable def g56_sh : List LSh := LSh.mk (((4, TV.ref (0) (1 : Nat) (0 : Nat) (0 : Nat)) : Nat × TV) :: ((6, TV.ref (1) (1 : Nat) (0 : Nat) (0 : Nat)) : Nat × TV) :: ((17, TV.v (Ty.int IntKind.i64)) : Nat × TV) :: ([] : List (Nat × TV))) (TB.arr (Ty.int IntKind.i64) false :: TB.arr (Ty.int IntKind.i64) false :: ([] : List TB)) :: ([] : List LSh)
def p3 : Nat → Int
  | 0 => 1
  | n + 1 => p3 n * 3
def tsum : Nat → Int → Int → Int
  | 0, _, _ => 0
  | n + 1, a, b => tsum n a b + (6 - a / p3 n % 3 - b / p3 n % 3) % 3 * p3 n
def thr (d a b : Int) : Int := tsum d.toNat a b
def cardP (c : Int) : Prop := 0 ≤ c ∧ c < 81
noncomputable def con57 : Con := mkC 57 [.d Deck, .d I64, .d I64] [I64] (fun (k : DeckD) (a b : Int) => [isD k.1 = true, cardP a, cardP b]) (fun (k : DeckD) (a b : Int) => (thr k.1 a b, ()))
noncomputable def g57 (x0 : Int × Int × Unit) (x1 x2 : Int) : Option (Int × Unit) := gd ((0 : Nat) < (2 : Nat)) (whileO (fun (d3 : Int × Int × Int × Int × Int × Unit) => bif ilt d3.2.2.2.2.1 x0.1 then gd ((3 : Int) ≠ (0 : Int)) (gd ((3 : Int) ≠ (0 : Int)) (gd ((3 : Int) ≠ (0 : Int)) (gd ((3 : Int) ≠ (0 : Int)) (gd ((3 : Int) ≠ (0 : Int)) (some (Lp.go ((wr IntKind.i64 (Int.tdiv d3.1 (3 : Int)), wr IntKind.i64 (Int.tdiv d3.2.1 (3 : Int)), wr IntKind.i64 (d3.2.2.1 + wr IntKind.i64 (Int.tmod (wr IntKind.i64 (wr IntKind.i64 ((6 : Int) - Int.tmod d3.1 (3 : Int)) - Int.tmod d3.2.1 (3 : Int))) (3 : Int) * d3.2.2.2.1)), wr IntKind.i64 (d3.2.2.2.1 * (3 : Int)), wr IntKind.i64 (d3.2.2.2.2.1 + (1 : Int)), ()) : Int × Int × Int × Int × Int × Unit))))))) else some (Lp.out ((d3.2.2.1, ()) : Int × Unit))) ((x1, x2, (0 : Int), (1 : Int), (0 : Int), ()) : Int × Int × Int × Int × Int × Unit))
noncomputable def g57_sh : List LSh := LSh.mk (((1, TV.v (Ty.int IntKind.i64)) : Nat × TV) :: ((2, TV.v (Ty.int IntKind.i64)) : Nat × TV) :: ((7, TV.v (Ty.int IntKind.i64)) : Nat × TV) :: ((8, TV.v (Ty.int IntKind.i64)) : Nat × TV) :: ((11, TV.v (Ty.int IntKind.i64)) : Nat × TV) :: ([] : List (Nat × TV))) ([] : List TB) :: ([] : List LSh)
def okH (d : Int) (l : List Int) : Bool := isD d && l.all (inC (sizeF d)) && ris l
def thirdX (d a b : Int) : Int × Int × Unit := if isD d = true ∧ inC (sizeF d) a = true ∧ inC (sizeF d) b = true ∧ a ≠ b then (thr d a b, 0, ()) else (0, 2, ())
noncomputable def con17 : Con := mkC 17 [.d I64, .d I64, .d I64] [I64, I64] (fun (d a b : Int) => []) (fun (d a b : Int) => thirdX d a b)
noncomputable def g17 (x0 x1 x2 : Int) : Option (Int × Int × Unit) := gd (small (x1 :: x2 :: ([] : List Int))) (gd ((2 : Nat) ≤ (2 : Nat)) (gd ((!!(readF x0 (x1 :: x2 :: ([] : List Int))).2.1) = true → (!!(readF x0 (x1 :: x2 :: ([] : List Int))).2.1) = true ∧ (!!(readF x0 (x1 :: x2 :: ([] : List Int))).2.1) = true) (gd ((!(readF x0 (x1 :: x2 :: ([] : List Int))).2.1) = false → (!!(readF x0 (x1 :: x2 :: ([] : List Int))).2.1) = true) (bif bif !(readF x0 (x1 :: x2 :: ([] : List Int))).2.1 then true else ieq x1 x2 then some (((0 : Int), (2 : Int), ()) : Int × Int × Unit) else gd ((2 : Nat) ≤ (2 : Nat)) (gd (isD (readF x0 (x1 :: x2 :: ([] : List Int))).1.1 = true) (gd (cardP x1) (gd (cardP x2) (some ((thr (readF x0 (x1 :: x2 :: ([] : List Int))).1.1 x1 x2, (0 : Int), ()) : Int × Int × Unit)))))))))
noncomputable def g17_sh : List LSh := ([] : List LSh)
def setsN (d : Int) (l : List Int) : Nat → Nat
  | 0 => 0
  | i + 1 => setsN d l i + (l.drop (i + 1)).countP (fun b => decide (b < thr d (l.getD i 0) b) && l.contains (thr d (l.getD i 0) b))
def setsF (d : Int) (l : List Int) : Int := setsN d l l.length
def setsX (d : Int) (l : List Int) : Int × Int × Unit := if okH d l = true then (setsF d l, 0, ()) else (0, 2, ())
noncomputable def con23 : Con := mkC 23 [] [.bool] [] (true, ())
noncomputable def g23  : Option (Bool × Unit) := gd (ieq (thirdX (1 : Int) (0 : Int) (1 : Int)).1 (2 : Int) = true → ieq (thirdX (1 : Int) (0 : Int) (1 : Int)).1 (2 : Int) = true) (gd (ieq (thirdX (1 : Int) (0 : Int) (1 : Int)).1 (2 : Int) = true → ieq (thirdX (1 : Int) (0 : Int) (1 : Int)).1 (2 : Int) = true) (some ((bif ieq (thirdX (1 : Int) (0 : Int) (1 : Int)).1 (2 : Int) then ieq (thirdX (1 : Int) (0 : Int) (1 : Int)).2.1 (0 : Int) else false, ()) : Bool × Unit)))
noncomputable def g23_sh : List LSh := ([] : List LSh)
def setsM (d : Int) (l : List Int) : Nat → Nat
  | 0 => 0
  | i + 1 => setsM d l i + (l.take i).countP (fun b => decide (thr d (l.getD i 0) b < b) && l.contains (thr d (l.getD i 0) b))
def setsR (d : Int) (l : List Int) : Int := setsM d l l.length
noncomputable def g3 (x0 x1 x2 : Int) (x3 : List Int) : Option (Bool × Unit) := gd (small (List.take (90 : Nat) x3)) (gd ((!ieq x1 x2) = true → (!ieq x1 x2) = true) (gd (ieq x1 x2 = false → (!ieq x1 x2) = true) (gd ((!bif ieq x1 x2 then true else ilt x1 (0 : Int)) = true → (!bif ieq x1 x2 then true else ilt x1 (0 : Int)) = true) (gd ((bif ieq x1 x2 then true else ilt x1 (0 : Int)) = false → (!bif ieq x1 x2 then true else ilt x1 (0 : Int)) = true) (gd ((!bif bif ieq x1 x2 then true else ilt x1 (0 : Int) then true else ilt x2 (0 : Int)) = true → (!bif bif ieq x1 x2 then true else ilt x1 (0 : Int) then true else ilt x2 (0 : Int)) = true ∧ (!bif bif ieq x1 x2 then true else ilt x1 (0 : Int) then true else ilt x2 (0 : Int)) = true) (gd ((bif bif ieq x1 x2 then true else ilt x1 (0 : Int) then true else ilt x2 (0 : Int)) = false → (!bif bif ieq x1 x2 then true else ilt x1 (0 : Int) then true else ilt x2 (0 : Int)) = true) (gd ((!bif bif bif ieq x1 x2 then true else ilt x1 (0 : Int) then true else ilt x2 (0 : Int) then true else ile (sizeF x0) x1) = true → (!bif bif bif ieq x1 x2 then true else ilt x1 (0 : Int) then true else ilt x2 (0 : Int) then true else ile (sizeF x0) x1) = true ∧ (!bif bif bif ieq x1 x2 then true else ilt x1 (0 : Int) then true else ilt x2 (0 : Int) then true else ile (sizeF x0) x1) = true) (gd ((bif bif bif ieq x1 x2 then true else ilt x1 (0 : Int) then true else ilt x2 (0 : Int) then true else ile (sizeF x0) x1) = false → (!bif bif bif ieq x1 x2 then true else ilt x1 (0 : Int) then true else ilt x2 (0 : Int) then true else ile (sizeF x0) x1) = true) (bif bif bif bif bif ieq x1 x2 then true else ilt x1 (0 : Int) then true else ilt x2 (0 : Int) then true else ile (sizeF x0) x1 then true else ile (sizeF x0) x2 then gd ((!!ieq (thirdX x0 x1 x2).1 (0 : Int)) = true → (!!ieq (thirdX x0 x1 x2).1 (0 : Int)) = true) (gd ((!ieq (thirdX x0 x1 x2).1 (0 : Int)) = false → (!!ieq (thirdX x0 x1 x2).1 (0 : Int)) = true) (bif bif !ieq (thirdX x0 x1 x2).1 (0 : Int) then true else !ieq (thirdX x0 x1 x2).2.1 (2 : Int) then some ((false, ()) : Bool × Unit) else gd (small x3) (bif !okH x0 x3 then gd (ieq (setsX x0 (List.take (90 : Nat) x3)).1 (0 : Int) = true → ieq (setsX x0 (List.take (90 : Nat) x3)).1 (0 : Int) = true) (gd (ieq (setsX x0 (List.take (90 : Nat) x3)).1 (0 : Int) = true → ieq (setsX x0 (List.take (90 : Nat) x3)).1 (0 : Int) = true) (gd ((bif ieq (setsX x0 (List.take (90 : Nat) x3)).1 (0 : Int) then ieq (setsX x0 (List.take (90 : Nat) x3)).2.1 (2 : Int) else false) = true → (bif ieq (setsX x0 (List.take (90 : Nat) x3)).1 (0 : Int) then ieq (setsX x0 (List.take (90 : Nat) x3)).2.1 (2 : Int) else false) = true) (some ((bif bif ieq (setsX x0 (List.take (90 : Nat) x3)).1 (0 : Int) then ieq (setsX x0 (List.take (90 : Nat) x3)).2.1 (2 : Int) else false then true else false, ()) : Bool × Unit)))) else gd (isD x0 = true) (gd (∀ (x4 : Int), List.Mem x4 x3 → cardP x4) (gd (List.length x3 ≤ (81 : Nat)) (gd (ieq (setsX x0 (List.take (90 : Nat) x3)).1 (setsR x0 x3) = true → ieq (setsX x0 (List.take (90 : Nat) x3)).1 (setsR x0 x3) = true) (gd (ieq (setsX x0 (List.take (90 : Nat) x3)).1 (setsR x0 x3) = true → ieq (setsX x0 (List.take (90 : Nat) x3)).1 (setsR x0 x3) = true) (gd ((bif ieq (setsX x0 (List.take (90 : Nat) x3)).1 (setsR x0 x3) then ieq (setsX x0 (List.take (90 : Nat) x3)).2.1 (0 : Int) else false) = true → (bif ieq (setsX x0 (List.take (90 : Nat) x3)).1 (setsR x0 x3) then ieq (setsX x0 (List.take (90 : Nat) x3)).2.1 (0 : Int) else false) = true) (some ((bif bif ieq (setsX x0 (List.take (90 : Nat) x3)).1 (setsR x0 x3) then ieq (setsX x0 (List.take (90 : Nat) x3)).2.1 (0 : Int) else false then true else false, ()) : Bool × Unit)))))))))) else gd (isD x0 = true) (gd (cardP x1) (gd (cardP x2) (gd ((!!ieq (thirdX x0 x1 x2).1 (thr x0 x1 x2)) = true → (!!ieq (thirdX x0 x1 x2).1 (thr x0 x1 x2)) = true) (gd ((!ieq (thirdX x0 x1 x2).1 (thr x0 x1 x2)) = false → (!!ieq (thirdX x0 x1 x2).1 (thr x0 x1 x2)) = true) (bif bif !ieq (thirdX x0 x1 x2).1 (thr x0 x1 x2) then true else !ieq (thirdX x0 x1 x2).2.1 (0 : Int) then some ((false, ()) : Bool × Unit) else gd (small x3) (bif !okH x0 x3 then gd (ieq (setsX x0 (List.take (90 : Nat) x3)).1 (0 : Int) = true → ieq (setsX x0 (List.take (90 : Nat) x3)).1 (0 : Int) = true) (gd (ieq (setsX x0 (List.take (90 : Nat) x3)).1 (0 : Int) = true → ieq (setsX x0 (List.take (90 : Nat) x3)).1 (0 : Int) = true) (gd ((bif ieq (setsX x0 (List.take (90 : Nat) x3)).1 (0 : Int) then ieq (setsX x0 (List.take (90 : Nat) x3)).2.1 (2 : Int) else false) = true → (bif ieq (setsX x0 (List.take (90 : Nat) x3)).1 (0 : Int) then ieq (setsX x0 (List.take (90 : Nat) x3)).2.1 (2 : Int) else false) = true) (some ((bif bif ieq (setsX x0 (List.take (90 : Nat) x3)).1 (0 : Int) then ieq (setsX x0 (List.take (90 : Nat) x3)).2.1 (2 : Int) else false then true else false, ()) : Bool × Unit)))) else gd (isD x0 = true) (gd (∀ (x4 : Int), List.Mem x4 x3 → cardP x4) (gd (List.length x3 ≤ (81 : Nat)) (gd (ieq (setsX x0 (List.take (90 : Nat) x3)).1 (setsR x0 x3) = true → ieq (setsX x0 (List.take (90 : Nat) x3)).1 (setsR x0 x3) = true) (gd (ieq (setsX x0 (List.take (90 : Nat) x3)).1 (setsR x0 x3) = true → ieq (setsX x0 (List.take (90 : Nat) x3)).1 (setsR x0 x3) = true) (gd ((bif ieq (setsX x0 (List.take (90 : Nat) x3)).1 (setsR x0 x3) then ieq (setsX x0 (List.take (90 : Nat) x3)).2.1 (0 : Int) else false) = true → (bif ieq (setsX x0 (List.take (90 : Nat) x3)).1 (setsR x0 x3) then ieq (setsX x0 (List.take (90 : Nat) x3)).2.1 (0 : Int) else false) = true) (some ((bif bif ieq (setsX x0 (List.take (90 : Nat) x3)).1 (setsR x0 x3) then ieq (setsX x0 (List.take (90 : Nat) x3)).2.1 (0 : Int) else false then true else false, ()) : Bool × Unit))))))))))))))))))))))
end Go.Caps

set_option linter.unusedVariables false
set_option linter.unusedSimpArgs false
namespace Go.Caps
open Go Go.Ab Go.Proofs

theorem mixed : Try.prog.follows .mixedOrders = true := by kernel_rfl

theorem goal93 : con93.goal Try.prog (spOf []) g93_sh [] lm30 := by
  have e : (∀ (c : Int) (k : DeckD), g93 c k = some (!inC k.2.1 c, ())) = con93.goal Try.prog (spOf []) g93_sh [] lm30 := by kernel_rfl
  rw [← e]
  intro c k
  unfold g93 inC
  by_cases h1 : c < 0
  · simp [ilt_iff.2 h1, gd_true, show ¬ 0 ≤ c by omega]
  · by_cases h2 : c < k.2.1
    · simp [ilt_false.2 (Int.not_lt.1 h1), ile_false.2 h2, gd_true, h2, show 0 ≤ c by omega]
    · simp [ilt_false.2 (Int.not_lt.1 h1), ile_iff.2 (Int.not_lt.1 h2), gd_true, h2]
set_option maxRecDepth 100000 in
theorem ok93 : con93.Ok Try.prog := Con.of_goal mixed okN con93 goal93

theorem ixNot_spec {n : Int} : ∀ {l : List Int} {i : Int}, 0 ≤ i → (0 ≤ ixNot n l i ↔ l.all (inC n) = false)
  | [], i, h => by simp [ixNot]
  | x :: l, i, h => by
    rw [ixNot]
    cases hx : inC n x with
    | true => rw [if_pos rfl, ixNot_spec (by omega), List.all_cons, hx, Bool.true_and]
    | false => simp [hx, h]

theorem ixNot_go {n : Int} {l : List Int} {i : Nat} (h : i < l.length) (hq : inC n (l.getD i 0) = true) : ixNot n (l.drop i) i = ixNot n (l.drop (i + 1)) (i + 1) := by
  rw [List.drop_eq_getElem_cons h, ixNot]
  rw [gd_at h] at hq
  rw [if_pos hq]
theorem ixNot_out {n : Int} {l : List Int} {i : Nat} (h : i < l.length) (hq : inC n (l.getD i 0) = false) : ixNot n (l.drop i) i = i := by
  rw [List.drop_eq_getElem_cons h, ixNot]
  rw [gd_at h] at hq
  rw [if_neg (by rw [hq]; simp)]

theorem goal98 : con98.goal Try.prog (spOf [con93]) g98_sh [] lm30 := by
  have e : (∀ (l : List Int) (k : DeckD), small l → g98 l k = some (ixNot k.2.1 l 0, ())) = con98.goal Try.prog (spOf [con93]) g98_sh [] lm30 := by kernel_rfl
  rw [← e]
  intro l k hs
  unfold small at hs
  unfold g98
  refine whileO_rec (fun (d : DeckD × Int × Unit) => d.1 = k ∧ 0 ≤ d.2.1 ∧ d.2.1 ≤ l.length) (fun (d : DeckD × Int × Unit) => l.length - d.2.1.toNat) (fun (d : DeckD × Int × Unit) => (ixNot k.2.1 (l.drop d.2.1.toNat) d.2.1, ())) ?_ ((k, 0, ()) : DeckD × Int × Unit) ⟨rfl, by simp only; omega, by simp only; omega⟩
  rintro ⟨k', i, _⟩ ⟨rfl, h0, h1⟩
  simp only at h0 h1 ⊢
  obtain ⟨n, rfl⟩ : ∃ n : Nat, i = n := ⟨i.toNat, by omega⟩
  by_cases hlt : n < l.length
  · cases hq : inC k'.2.1 (l.getD n 0) with
    | true =>
      right
      refine ⟨((k', ((n + 1 : Nat) : Int), ()) : DeckD × Int × Unit), ?_, ⟨rfl, by simp only; omega, by simp only; omega⟩, by simp only; omega, ?_⟩
      · rw [cond_t (ilt_iff.2 (by omega)), gd_pos (by omega)]
        simp only [Int.toNat_natCast, hq, cast1 (i := n) (by omega)]
        rfl
      · simp only [Int.toNat_natCast]
        rw [ixNot_go hlt hq]; rfl
    | false =>
      left
      rw [cond_t (ilt_iff.2 (by omega)), gd_pos (by omega)]
      simp only [Int.toNat_natCast, hq]
      rw [ixNot_out hlt hq]
      rfl
  · left
    have hn : n = l.length := by omega
    rw [cond_f (ilt_false.2 (by omega))]
    simp only [Int.toNat_natCast, hn, List.drop_length, ixNot]
set_option maxRecDepth 100000 in
theorem ok98 : con98.Ok Try.prog := Con.of_goal mixed (okC ok93 okN) con98 goal98

theorem goal72 : con72.goal Try.prog (spOf [con98]) g72_sh [] lm30 := by
  have e : (∀ (l : List Int) (k : DeckD), small l → g72 l k = some (!l.all (inC k.2.1), ())) = con72.goal Try.prog (spOf [con98]) g72_sh [] lm30 := by kernel_rfl
  rw [← e]
  intro l k hs
  unfold g72
  rw [gd_pos hs]
  have h := ixNot_spec (n := k.2.1) (l := l) (i := 0) (by omega)
  cases ha : l.all (inC k.2.1) with
  | true =>
    have : ixNot k.2.1 l 0 < 0 := by
      rcases Int.lt_or_le (ixNot k.2.1 l 0) 0 with h1 | h1
      · exact h1
      · have := h.1 h1; rw [ha] at this; cases this
    rw [ile_false.2 this]; rfl
  | false => rw [ile_iff.2 (h.2 ha)]; rfl
set_option maxRecDepth 100000 in
theorem ok72 : con72.Ok Try.prog := Con.of_goal mixed (okC ok98 okN) con72 goal72

theorem isD_iff {d : Int} : isD d = true ↔ 1 ≤ d ∧ d ≤ 4 := by
  simp only [isD, List.contains_iff_mem, List.mem_cons, List.not_mem_nil, or_false]
  omega
theorem isD_cases {d : Int} (h : isD d = true) : d = 1 ∨ d = 2 ∨ d = 3 ∨ d = 4 := by
  have := isD_iff.1 h
  omega

theorem goal56 : con56.goal Try.prog (spOf [con72]) g56_sh [] lm30 := by
  have e : (∀ (d : Int) (l : List Int), small l → g56 d l = some (readF d l)) = con56.goal Try.prog (spOf [con72]) g56_sh [] lm30 := by kernel_rfl
  rw [← e]
  intro d l hs
  have w1 : wr .i64 1 = 1 := by decide
  have w2 : wr .i64 2 = 2 := by decide
  have w3 : wr .i64 3 = 3 := by decide
  have w4 : wr .i64 4 = 4 := by decide
  have w9 : wr .i64 9 = 9 := by decide
  have w27 : wr .i64 27 = 27 := by decide
  have w81 : wr .i64 81 = 81 := by decide
  unfold g56
  by_cases h : isD d = true
  · rcases isD_cases h with rfl | rfl | rfl | rfl
    · refine (?_ : _ = _)
      simp only [ilt, gd_true]
      simp [gd_true]
      refine (whileO_go (s' := ((1 : Int), [0, 0], [1, 3], ())) (by simp [gd_true, w1, w3])).trans ?_
      refine whileO_out ?_
      simp [gd_true, hs, setMany, readF, isD, sizeF]
    · simp [ilt, gd_true]
      refine (whileO_go (s' := ((1 : Int), [0, 0], [2, 3], ())) (by simp [gd_true, w1, w3])).trans ?_
      refine (whileO_go (s' := ((2 : Int), [0, 0], [2, 9], ())) (by simp [gd_true, w2, w9])).trans ?_
      refine whileO_out ?_
      simp [gd_true, hs, setMany, readF, isD, sizeF]
    · simp [ilt, gd_true]
      refine (whileO_go (s' := ((1 : Int), [0, 0], [3, 3], ())) (by simp [gd_true, w1, w3])).trans ?_
      refine (whileO_go (s' := ((2 : Int), [0, 0], [3, 9], ())) (by simp [gd_true, w2, w9])).trans ?_
      refine (whileO_go (s' := ((3 : Int), [0, 0], [3, 27], ())) (by simp [gd_true, w3, w27])).trans ?_
      refine whileO_out ?_
      simp [gd_true, hs, setMany, readF, isD, sizeF]
    · simp [ilt, gd_true]
      refine (whileO_go (s' := ((1 : Int), [0, 0], [4, 3], ())) (by simp [gd_true, w1, w3])).trans ?_
      refine (whileO_go (s' := ((2 : Int), [0, 0], [4, 9], ())) (by simp [gd_true, w2, w9])).trans ?_
      refine (whileO_go (s' := ((3 : Int), [0, 0], [4, 27], ())) (by simp [gd_true, w3, w27])).trans ?_
      refine (whileO_go (s' := ((4 : Int), [0, 0], [4, 81], ())) (by simp [gd_true, w4, w81])).trans ?_
      refine whileO_out ?_
      simp [gd_true, hs, setMany, readF, isD, sizeF]
  · have hd : d < 1 ∨ 4 < d := by
      rw [isD_iff] at h; omega
    have hX : readF d l = ((0, 0, ()), false, ()) := by rw [readF, if_neg h]
    rw [hX]
    rcases hd with hd | hd
    · simp [ilt_iff.2 hd, gd_true]
    · by_cases h1 : d < 1
      · simp [ilt_iff.2 h1, gd_true]
      · simp [ilt_false.2 (Int.not_lt.1 h1), ilt_iff.2 hd, gd_true]
set_option maxRecDepth 100000 in
theorem ok56 : con56.Ok Try.prog := Con.of_goal mixed (okC ok72 okN) con56 goal56

theorem p3_le {n : Nat} (h : n ≤ 4) : 1 ≤ p3 n ∧ p3 n ≤ 81 := by
  match n, h with
  | 0, _ => decide
  | 1, _ => decide
  | 2, _ => decide
  | 3, _ => decide
  | 4, _ => decide
theorem dig_rng (x y : Int) : 0 ≤ (6 - x % 3 - y % 3) % 3 ∧ (6 - x % 3 - y % 3) % 3 < 3 := by omega
theorem tsum_rng {a b : Int} : ∀ (n : Nat), n ≤ 4 → 0 ≤ tsum n a b ∧ tsum n a b < p3 n
  | 0, _ => by simp [tsum, p3]
  | n + 1, h => by
    have h1 := tsum_rng (a := a) (b := b) n (by omega)
    have h2 := p3_le (n := n) (by omega)
    have h3 := dig_rng (a / p3 n) (b / p3 n)
    rw [tsum, p3]
    generalize (6 - a / p3 n % 3 - b / p3 n % 3) % 3 = e at h3
    have h4 : 0 ≤ e * p3 n := Int.mul_nonneg h3.1 (by omega)
    have h5 : e * p3 n ≤ 2 * p3 n := Int.mul_le_mul_of_nonneg_right (by omega) (by omega)
    omega

theorem dig_step {x y : Int} (hx : 0 ≤ x ∧ x ≤ 81) (hy : 0 ≤ y ∧ y ≤ 81) : Int.tmod (wr .i64 (wr .i64 (6 - Int.tmod x 3) - Int.tmod y 3)) 3 = (6 - x % 3 - y % 3) % 3 := by
  rw [Int.tmod_eq_emod_of_nonneg hx.1, Int.tmod_eq_emod_of_nonneg hy.1, wr_id (n := 6 - x % 3) (by omega), wr_id (n := 6 - x % 3 - y % 3) (by omega), Int.tmod_eq_emod_of_nonneg (by omega)]

theorem goal57 : con57.goal Try.prog (spOf []) g57_sh [] lm30 := by
  have e : (∀ (k : DeckD) (a b : Int), isD k.1 = true → cardP a → cardP b → g57 k a b = some (thr k.1 a b, ())) = con57.goal Try.prog (spOf []) g57_sh [] lm30 := by kernel_rfl
  rw [← e]
  intro k a b hd ha hb
  have h4 := isD_iff.1 hd
  unfold cardP at ha hb
  unfold g57
  rw [gd_pos (by decide)]
  rw [show ((a, b, (0 : Int), (1 : Int), (0 : Int), ()) : Int × Int × Int × Int × Int × Unit) = (a / p3 0, b / p3 0, tsum 0 a b, p3 0, ((0 : Nat) : Int), ()) by simp [p3, tsum]]
  refine whileO_nat (st := fun i : Nat => ((a / p3 i, b / p3 i, tsum i a b, p3 i, (i : Int), ()) : Int × Int × Int × Int × Int × Unit)) (lo := 0) (hi := k.1.toNat) (Nat.zero_le _) ?_ ?_
  · intro i _ hi
    have h1 := p3_le (n := i) (by omega)
    have h2 := tsum_rng (a := a) (b := b) i (by omega)
    have h3 := dig_rng (a / p3 i) (b / p3 i)
    have qa : 0 ≤ a / p3 i ∧ a / p3 i ≤ 81 := ⟨Int.ediv_nonneg ha.1 (by omega), Int.le_trans (Int.ediv_le_self _ ha.1) (by omega)⟩
    have qb : 0 ≤ b / p3 i ∧ b / p3 i ≤ 81 := ⟨Int.ediv_nonneg hb.1 (by omega), Int.le_trans (Int.ediv_le_self _ hb.1) (by omega)⟩
    have ea : a / (p3 i * 3) = a / p3 i / 3 := (Int.ediv_ediv_of_nonneg (by omega)).symm
    have eb : b / (p3 i * 3) = b / p3 i / 3 := (Int.ediv_ediv_of_nonneg (by omega)).symm
    refine (cond_t (ilt_iff.2 (by simp only; omega))).trans ?_
    simp only [gd_pos (show (3 : Int) ≠ 0 by decide), dig_step qa qb, tsum, p3, ea, eb, cast1 (i := i) (by omega)]
    rw [Int.tdiv_eq_ediv_of_nonneg qa.1, Int.tdiv_eq_ediv_of_nonneg qb.1]
    generalize (6 - a / p3 i % 3 - b / p3 i % 3) % 3 = g at h3
    have h4 : 0 ≤ g * p3 i := Int.mul_nonneg h3.1 (by omega)
    have h5 : g * p3 i ≤ 2 * p3 i := Int.mul_le_mul_of_nonneg_right (by omega) (by omega)
    rw [wr_id (n := a / p3 i / 3) (by omega), wr_id (n := b / p3 i / 3) (by omega), wr_id (n := g * p3 i) (by omega), wr_id (by omega), wr_id (by omega)]
  · refine (cond_f (ilt_false.2 (by simp only; omega))).trans rfl
set_option maxRecDepth 100000 in
theorem ok57 : con57.Ok Try.prog := Con.of_goal mixed okN con57 goal57

end Go.Caps

set_option linter.unusedVariables false
set_option linter.unusedSimpArgs false
namespace Go.Caps
open Go Go.Ab Go.Proofs

theorem inC_iff {n c : Int} : inC n c = true ↔ 0 ≤ c ∧ c < n := by simp [inC]
theorem size_le {d : Int} : sizeF d ≤ 81 := by
  unfold sizeF
  (repeat' split) <;> omega
theorem inC_card {d c : Int} (h : inC (sizeF d) c = true) : cardP c := by
  have := inC_iff.1 h
  have := size_le (d := d)
  unfold cardP; omega

theorem goal17 : con17.goal Try.prog (spOf [con56, con57]) g17_sh [] lm30 := by
  have e : (∀ (d a b : Int), g17 d a b = some (thirdX d a b)) = con17.goal Try.prog (spOf [con56, con57]) g17_sh [] lm30 := by kernel_rfl
  rw [← e]
  intro d a b
  have hs : small [a, b] := by simp [small]
  unfold g17
  by_cases hd : isD d = true
  · by_cases ha : inC (sizeF d) a = true
    · by_cases hb : inC (sizeF d) b = true
      · have hr : readF d [a, b] = ((d, sizeF d, ()), true, ()) := by simp [readF, hd, ha, hb]
        by_cases hab : a = b
        · subst hab
          have hX : thirdX d a a = (0, 2, ()) := by rw [thirdX, if_neg (fun h => h.2.2.2 rfl)]
          rw [hX]
          simp [hr, hs, gd_true, ieq_d]
        · have hX : thirdX d a b = (thr d a b, 0, ()) := by rw [thirdX, if_pos ⟨hd, ha, hb, hab⟩]
          rw [hX]
          simp [hr, hs, gd_true, hab, ieq_d, hd, inC_card ha, inC_card hb]
      · have hr : readF d [a, b] = ((d, sizeF d, ()), false, ()) := by simp [readF, hd, hb]
        have hX : thirdX d a b = (0, 2, ()) := by rw [thirdX, if_neg (fun h => hb h.2.2.1)]
        rw [hX]
        simp [hr, hs, gd_true]
    · have hr : readF d [a, b] = ((d, sizeF d, ()), false, ()) := by simp [readF, hd, ha]
      have hX : thirdX d a b = (0, 2, ()) := by rw [thirdX, if_neg (fun h => ha h.2.1)]
      rw [hX]
      simp [hr, hs, gd_true]
  · have hr : readF d [a, b] = ((0, 0, ()), false, ()) := by simp [readF, hd]
    have hX : thirdX d a b = (0, 2, ()) := by rw [thirdX, if_neg (fun h => hd h.1)]
    rw [hX]
    simp [hr, hs, gd_true]
set_option maxRecDepth 100000 in
theorem ok17 : con17.Ok Try.prog := Con.of_goal mixed (okC ok56 (okC ok57 okN)) con17 goal17

theorem goal23 : con23.goal Try.prog (spOf [con17]) g23_sh [] lm30 := by
  have e : (g23 = some (true, ())) = con23.goal Try.prog (spOf [con17]) g23_sh [] lm30 := by kernel_rfl
  rw [← e]
  have hX : thirdX 1 0 1 = (2, 0, ()) := by decide
  unfold g23
  rw [hX]
  simp [gd_true, ieq_d]
set_option maxRecDepth 100000 in
theorem ok23 : con23.Ok Try.prog := Con.of_goal mixed (okC ok17 okN) con23 goal23

end Go.Caps

set_option linter.unusedVariables false
set_option linter.unusedSimpArgs false
namespace Go.Caps
open Go Go.Ab Go.Proofs

end Go.Caps

set_option linter.unusedVariables false
set_option linter.unusedSimpArgs false
namespace Go.Caps
open Go Go.Ab Go.Proofs

/-! sums over lists -/
def S (l : List Int) (g : Int → Nat) : Nat := match l with
  | [] => 0
  | x :: r => g x + S r g
/-! pairs in order -/
end Go.Caps

set_option linter.unusedVariables false
set_option linter.unusedSimpArgs false
namespace Go.Caps
open Go Go.Ab Go.Proofs

end Go.Caps

set_option linter.unusedVariables false
set_option linter.unusedSimpArgs false
namespace Go.Caps
open Go Go.Ab Go.Proofs

end Go.Caps
