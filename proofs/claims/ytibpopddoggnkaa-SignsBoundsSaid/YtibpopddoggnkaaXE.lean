/- Det and Most: contracts. -/
import Derived.Test.YtibpopddoggnkaaXW
import Derived.Test.YtibpopddoggnkaaXD
import Derived.Test.YtibpopddoggnkaaAT
import Derived.Test.YtibpopddoggnkaaXU
import Derived.Test.YtibpopddoggnkaaXJ
set_option linter.unusedVariables false
set_option linter.unusedSimpArgs false
namespace Go.Signs
open Go Go.Ab Go.Proofs
abbrev LLI : Ty := .slice LI
noncomputable def con94 : Con := mkC 94 [.d LI, .d (.ptr I64)] [.bool] (fun (r:List Int) (k:Int) => [0 ≤ k ∧ k < r.length]) (fun (r:List Int) (k:Int) => (!ieq (r.getD k.toNat 0) 0, ()))
noncomputable def g94 (x0:List Int) (x1:Int) : Option (Bool × Unit) := gd ((0:Int) ≤ x1 ∧ x1 < (↑(List.length x0):Int)) (some ((!ieq (List.getD x0 (Int.toNat x1) (0:Int)) (0:Int), ()) : Bool × Unit))
noncomputable def g94_sh : List LSh := ([] : List LSh)
def ixF (k:Nat) : List (List Int) → Int → Int
  | [], _ => -1
  | r :: l, i => if r.getD k 0 ≠ 0 then i else ixF k l (i + 1)
noncomputable def con93 : Con := mkC 93 [.d LLI, .fn 94 [.ptr I64]] [I64] (fun (a:List (List Int)) (k:Int) => [a.length ≤ 1000 ∧ 0 ≤ k ∧ ∀ r ∈ a, k < r.length]) (fun (a:List (List Int)) (k:Int) => (ixF k.toNat a 0, ()))
noncomputable def g93 (x0:List (List Int)) (x1:Int) : Option (Int × Unit) := whileO (fun (d2 : Int × Int × Unit) => bif ilt d2.2.1 (↑(List.length x0):Int) then gd ((0:Int) ≤ d2.2.1 ∧ d2.2.1 < (↑(List.length x0):Int)) (gd ((0:Int) ≤ d2.1 ∧ d2.1 < (↑(List.length (List.getD x0 (Int.toNat d2.2.1) ([]:List Int))):Int)) (bif !ieq (List.getD (List.getD x0 (Int.toNat d2.2.1) ([]:List Int)) (Int.toNat d2.1) (0:Int)) (0:Int) then some (Lp.out ((d2.2.1, ()) : Int × Unit)) else some (Lp.go ((d2.1, wr IntKind.i64 (d2.2.1 + (1:Int)), ()) : Int × Int × Unit)))) else some (Lp.out (((-1:Int), ()) : Int × Unit))) ((x1, (0:Int), ()) : Int × Int × Unit)
noncomputable def g93_sh : List LSh := LSh.mk (((1, TV.fn (94) (TV.cons (TV.v (Ty.ptr (Ty.int IntKind.i64))) TV.nil)) : Nat × TV) :: ((8, TV.v (Ty.int IntKind.i64)) : Nat × TV) :: ([] : List (Nat × TV))) ([] : List TB) :: ([] : List LSh)
def detF (l:List Int) : Int := dt l.length (ent l)
noncomputable def con79 : Con := mkC 79 [.d LI] [I64] (fun (l:List Int) => [isM l 12 = true]) (fun (l:List Int) => (detF l, ()))
noncomputable def g79_l0 (x0:List Int) (d1 d2 : Int × Int × List (List Int) × Unit) : Option (Lp (Int × Int × List (List Int) × Unit) (Lp (Int × Int × List (List Int) × Unit) (Int × Unit))) := bif ilt d2.2.1 (↑(List.length x0):Int) then gd (okE x0 d1.2.1 d2.2.1) (bif isF x0 d1.2.1 d2.2.1 then gd ((0:Int) ≤ d1.2.1 ∧ d1.2.1 < (↑(Int.toNat d2.1):Int)) (gd ((0:Nat) + Int.toNat d1.2.1 < List.length d2.2.2.1) (gd ((0:Nat) + Int.toNat d1.2.1 < List.length d2.2.2.1) (gd (List.length (List.getD d2.2.2.1 ((0:Nat) + Int.toNat d1.2.1) ([]:List Int)) ≤ List.length (List.getD d2.2.2.1 ((0:Nat) + Int.toNat d1.2.1) ([]:List Int))) (gd ((List.length (List.getD d2.2.2.1 ((0:Nat) + Int.toNat d1.2.1) ([]:List Int)) + (1:Nat)) * (8:Nat) ≤ (1099511627776:Nat)) (gd ((0:Int) ≤ d1.2.1 ∧ d1.2.1 < (↑(Int.toNat d2.1):Int)) (gd ((0:Nat) + Int.toNat d1.2.1 < List.length (List.set d2.2.2.1 ((0:Nat) + Int.toNat d1.2.1) (List.take (List.length (List.getD d2.2.2.1 ((0:Nat) + Int.toNat d1.2.1) ([]:List Int))) (List.getD d2.2.2.1 ((0:Nat) + Int.toNat d1.2.1) ([]:List Int)) ++ (-1:Int) :: ([]:List Int)))) (gd ((0:Nat) + Int.toNat d1.2.1 = (0:Nat) + Int.toNat d1.2.1) (gd ((0:Nat) + Int.toNat d1.2.1 = (0:Nat) + Int.toNat d1.2.1) (gd (List.length (List.getD d2.2.2.1 ((0:Nat) + Int.toNat d1.2.1) ([]:List Int)) + (1:Nat) = List.length (List.getD (List.set d2.2.2.1 ((0:Nat) + Int.toNat d1.2.1) (List.take (List.length (List.getD d2.2.2.1 ((0:Nat) + Int.toNat d1.2.1) ([]:List Int))) (List.getD d2.2.2.1 ((0:Nat) + Int.toNat d1.2.1) ([]:List Int)) ++ (-1:Int) :: ([]:List Int))) ((0:Nat) + Int.toNat d1.2.1) ([]:List Int))) (some (Lp.go (((↑(Int.toNat d2.1):Int), wr IntKind.i64 (d2.2.1 + (1:Int)), List.set d2.2.2.1 ((0:Nat) + Int.toNat d1.2.1) (List.take (List.length (List.getD d2.2.2.1 ((0:Nat) + Int.toNat d1.2.1) ([]:List Int))) (List.getD d2.2.2.1 ((0:Nat) + Int.toNat d1.2.1) ([]:List Int)) ++ (-1:Int) :: ([]:List Int)), ()) : Int × Int × List (List Int) × Unit)))))))))))) else gd ((0:Int) ≤ d1.2.1 ∧ d1.2.1 < (↑(Int.toNat d2.1):Int)) (gd ((0:Nat) + Int.toNat d1.2.1 < List.length d2.2.2.1) (gd ((0:Nat) + Int.toNat d1.2.1 < List.length d2.2.2.1) (gd (List.length (List.getD d2.2.2.1 ((0:Nat) + Int.toNat d1.2.1) ([]:List Int)) ≤ List.length (List.getD d2.2.2.1 ((0:Nat) + Int.toNat d1.2.1) ([]:List Int))) (gd ((List.length (List.getD d2.2.2.1 ((0:Nat) + Int.toNat d1.2.1) ([]:List Int)) + (1:Nat)) * (8:Nat) ≤ (1099511627776:Nat)) (gd ((0:Int) ≤ d1.2.1 ∧ d1.2.1 < (↑(Int.toNat d2.1):Int)) (gd ((0:Nat) + Int.toNat d1.2.1 < List.length (List.set d2.2.2.1 ((0:Nat) + Int.toNat d1.2.1) (List.take (List.length (List.getD d2.2.2.1 ((0:Nat) + Int.toNat d1.2.1) ([]:List Int))) (List.getD d2.2.2.1 ((0:Nat) + Int.toNat d1.2.1) ([]:List Int)) ++ (1:Int) :: ([]:List Int)))) (gd ((0:Nat) + Int.toNat d1.2.1 = (0:Nat) + Int.toNat d1.2.1) (gd ((0:Nat) + Int.toNat d1.2.1 = (0:Nat) + Int.toNat d1.2.1) (gd (List.length (List.getD d2.2.2.1 ((0:Nat) + Int.toNat d1.2.1) ([]:List Int)) + (1:Nat) = List.length (List.getD (List.set d2.2.2.1 ((0:Nat) + Int.toNat d1.2.1) (List.take (List.length (List.getD d2.2.2.1 ((0:Nat) + Int.toNat d1.2.1) ([]:List Int))) (List.getD d2.2.2.1 ((0:Nat) + Int.toNat d1.2.1) ([]:List Int)) ++ (1:Int) :: ([]:List Int))) ((0:Nat) + Int.toNat d1.2.1) ([]:List Int))) (some (Lp.go (((↑(Int.toNat d2.1):Int), wr IntKind.i64 (d2.2.1 + (1:Int)), List.set d2.2.2.1 ((0:Nat) + Int.toNat d1.2.1) (List.take (List.length (List.getD d2.2.2.1 ((0:Nat) + Int.toNat d1.2.1) ([]:List Int))) (List.getD d2.2.2.1 ((0:Nat) + Int.toNat d1.2.1) ([]:List Int)) ++ (1:Int) :: ([]:List Int)), ()) : Int × Int × List (List Int) × Unit))))))))))))) else some (Lp.out (Lp.go (((↑(Int.toNat d2.1):Int), wr IntKind.i64 (d1.2.1 + (1:Int)), d2.2.2.1, ()) : Int × Int × List (List Int) × Unit)))
noncomputable def g79_l1 (x0:List Int) (d2 : Int × Int × Int × Int × List (List Int) × Unit) (d3 d4 : Int × Int × List (List Int) × Int × Unit) : Option (Lp (Int × Int × List (List Int) × Int × Unit) (Lp (Int × Int × List (List Int) × Int × Unit) (Lp (Int × Int × Int × Int × List (List Int) × Unit) (Lp (Int × Int × List (List Int) × Unit) (Int × Unit))))) := bif ilt d4.2.1 (↑(List.length x0):Int) then gd ((0:Int) ≤ d3.2.1 ∧ d3.2.1 < (↑(Int.toNat d4.1):Int)) (gd ((0:Nat) + Int.toNat d3.2.1 < List.length d4.2.2.1) (gd ((0:Int) ≤ d3.2.1 ∧ d3.2.1 < (↑(Int.toNat d4.1):Int)) (gd ((0:Nat) + Int.toNat d3.2.1 < List.length d4.2.2.1) (gd ((0:Int) ≤ d4.2.1 ∧ d4.2.1 < (↑(List.length (List.getD d4.2.2.1 ((0:Nat) + Int.toNat d3.2.1) ([]:List Int))):Int)) (gd ((0:Nat) + Int.toNat d4.2.1 < List.length (List.getD d4.2.2.1 ((0:Nat) + Int.toNat d3.2.1) ([]:List Int))) (gd ((0:Int) ≤ d4.2.2.2.1 ∧ d4.2.2.2.1 < (↑(Int.toNat d4.1):Int)) (gd ((0:Nat) + Int.toNat d4.2.2.2.1 < List.length d4.2.2.1) (gd ((0:Int) ≤ d4.2.2.2.1 ∧ d4.2.2.2.1 < (↑(List.length (List.getD d4.2.2.1 ((0:Nat) + Int.toNat d4.2.2.2.1) ([]:List Int))):Int)) (gd ((0:Nat) + Int.toNat d4.2.2.2.1 < List.length (List.getD d4.2.2.1 ((0:Nat) + Int.toNat d4.2.2.2.1) ([]:List Int))) (gd ((0:Int) ≤ d3.2.1 ∧ d3.2.1 < (↑(Int.toNat d4.1):Int)) (gd ((0:Nat) + Int.toNat d3.2.1 < List.length d4.2.2.1) (gd ((0:Int) ≤ d4.2.2.2.1 ∧ d4.2.2.2.1 < (↑(List.length (List.getD d4.2.2.1 ((0:Nat) + Int.toNat d3.2.1) ([]:List Int))):Int)) (gd ((0:Nat) + Int.toNat d4.2.2.2.1 < List.length (List.getD d4.2.2.1 ((0:Nat) + Int.toNat d3.2.1) ([]:List Int))) (gd ((0:Int) ≤ d4.2.2.2.1 ∧ d4.2.2.2.1 < (↑(Int.toNat d4.1):Int)) (gd ((0:Nat) + Int.toNat d4.2.2.2.1 < List.length d4.2.2.1) (gd ((0:Int) ≤ d4.2.1 ∧ d4.2.1 < (↑(List.length (List.getD d4.2.2.1 ((0:Nat) + Int.toNat d4.2.2.2.1) ([]:List Int))):Int)) (gd ((0:Nat) + Int.toNat d4.2.1 < List.length (List.getD d4.2.2.1 ((0:Nat) + Int.toNat d4.2.2.2.1) ([]:List Int))) (gd (d2.2.2.1 ≠ (0:Int)) (gd ((0:Int) ≤ d4.2.1 ∧ d4.2.1 < (↑(List.length (List.getD d4.2.2.1 ((0:Nat) + Int.toNat d3.2.1) ([]:List Int))):Int)) (gd ((0:Nat) + Int.toNat d4.2.1 < List.length (List.getD d4.2.2.1 ((0:Nat) + Int.toNat d3.2.1) ([]:List Int))) (some (Lp.go (((↑(Int.toNat d4.1):Int), wr IntKind.i64 (d4.2.1 + (1:Int)), List.set d4.2.2.1 ((0:Nat) + Int.toNat d3.2.1) (List.set (List.getD d4.2.2.1 ((0:Nat) + Int.toNat d3.2.1) ([]:List Int)) ((0:Nat) + Int.toNat d4.2.1) (wr IntKind.i64 (Int.tdiv (wr IntKind.i64 (wr IntKind.i64 (List.getD (List.getD d4.2.2.1 ((0:Nat) + Int.toNat d3.2.1) ([]:List Int)) ((0:Nat) + Int.toNat d4.2.1) (0:Int) * List.getD (List.getD d4.2.2.1 ((0:Nat) + Int.toNat d4.2.2.2.1) ([]:List Int)) ((0:Nat) + Int.toNat d4.2.2.2.1) (0:Int)) - wr IntKind.i64 (List.getD (List.getD d4.2.2.1 ((0:Nat) + Int.toNat d3.2.1) ([]:List Int)) ((0:Nat) + Int.toNat d4.2.2.2.1) (0:Int) * List.getD (List.getD d4.2.2.1 ((0:Nat) + Int.toNat d4.2.2.2.1) ([]:List Int)) ((0:Nat) + Int.toNat d4.2.1) (0:Int)))) d2.2.2.1))), d4.2.2.2.1, ()) : Int × Int × List (List Int) × Int × Unit))))))))))))))))))))))) else some (Lp.out (Lp.go (((↑(Int.toNat d4.1):Int), wr IntKind.i64 (d3.2.1 + (1:Int)), d4.2.2.1, d4.2.2.2.1, ()) : Int × Int × List (List Int) × Int × Unit)))
noncomputable def g79_l2 (x0:List Int) (d2 : Int × Int × Int × Int × List (List Int) × Unit) (d3 : Int × Int × List (List Int) × Int × Unit) : Option (Lp (Int × Int × List (List Int) × Int × Unit) (Lp (Int × Int × Int × Int × List (List Int) × Unit) (Lp (Int × Int × List (List Int) × Unit) (Int × Unit)))) := bif ilt d3.2.1 (↑(List.length x0):Int) then whileO (g79_l1 x0 d2 d3) (((↑(Int.toNat d3.1):Int), wr IntKind.i64 (d3.2.2.2.1 + (1:Int)), d3.2.2.1, d3.2.2.2.1, ()) : Int × Int × List (List Int) × Int × Unit) else gd ((0:Int) ≤ d3.2.2.2.1 ∧ d3.2.2.2.1 < (↑(Int.toNat d3.1):Int)) (gd ((0:Nat) + Int.toNat d3.2.2.2.1 < List.length d3.2.2.1) (gd ((0:Int) ≤ d3.2.2.2.1 ∧ d3.2.2.2.1 < (↑(List.length (List.getD d3.2.2.1 ((0:Nat) + Int.toNat d3.2.2.2.1) ([]:List Int))):Int)) (gd ((0:Nat) + Int.toNat d3.2.2.2.1 < List.length (List.getD d3.2.2.1 ((0:Nat) + Int.toNat d3.2.2.2.1) ([]:List Int))) (some (Lp.out (Lp.go (((↑(Int.toNat d3.1):Int), wr IntKind.i64 ((0:Int) - d2.2.1), List.getD (List.getD d3.2.2.1 ((0:Nat) + Int.toNat d3.2.2.2.1) ([]:List Int)) ((0:Nat) + Int.toNat d3.2.2.2.1) (0:Int), wr IntKind.i64 (d2.2.2.2.1 + (1:Int)), d3.2.2.1, ()) : Int × Int × Int × Int × List (List Int) × Unit)))))))
noncomputable def g79_l3 (x0:List Int) (d2 : Int × Int × Int × Int × List (List Int) × Unit) (d3 d4 : Int × Int × List (List Int) × Int × Unit) : Option (Lp (Int × Int × List (List Int) × Int × Unit) (Lp (Int × Int × List (List Int) × Int × Unit) (Lp (Int × Int × Int × Int × List (List Int) × Unit) (Lp (Int × Int × List (List Int) × Unit) (Int × Unit))))) := bif ilt d4.2.1 (↑(List.length x0):Int) then gd ((0:Int) ≤ d3.2.1 ∧ d3.2.1 < (↑(Int.toNat d4.1):Int)) (gd ((0:Nat) + Int.toNat d3.2.1 < List.length d4.2.2.1) (gd ((0:Int) ≤ d3.2.1 ∧ d3.2.1 < (↑(Int.toNat d4.1):Int)) (gd ((0:Nat) + Int.toNat d3.2.1 < List.length d4.2.2.1) (gd ((0:Int) ≤ d4.2.1 ∧ d4.2.1 < (↑(List.length (List.getD d4.2.2.1 ((0:Nat) + Int.toNat d3.2.1) ([]:List Int))):Int)) (gd ((0:Nat) + Int.toNat d4.2.1 < List.length (List.getD d4.2.2.1 ((0:Nat) + Int.toNat d3.2.1) ([]:List Int))) (gd ((0:Int) ≤ d4.2.2.2.1 ∧ d4.2.2.2.1 < (↑(Int.toNat d4.1):Int)) (gd ((0:Nat) + Int.toNat d4.2.2.2.1 < List.length d4.2.2.1) (gd ((0:Int) ≤ d4.2.2.2.1 ∧ d4.2.2.2.1 < (↑(List.length (List.getD d4.2.2.1 ((0:Nat) + Int.toNat d4.2.2.2.1) ([]:List Int))):Int)) (gd ((0:Nat) + Int.toNat d4.2.2.2.1 < List.length (List.getD d4.2.2.1 ((0:Nat) + Int.toNat d4.2.2.2.1) ([]:List Int))) (gd ((0:Int) ≤ d3.2.1 ∧ d3.2.1 < (↑(Int.toNat d4.1):Int)) (gd ((0:Nat) + Int.toNat d3.2.1 < List.length d4.2.2.1) (gd ((0:Int) ≤ d4.2.2.2.1 ∧ d4.2.2.2.1 < (↑(List.length (List.getD d4.2.2.1 ((0:Nat) + Int.toNat d3.2.1) ([]:List Int))):Int)) (gd ((0:Nat) + Int.toNat d4.2.2.2.1 < List.length (List.getD d4.2.2.1 ((0:Nat) + Int.toNat d3.2.1) ([]:List Int))) (gd ((0:Int) ≤ d4.2.2.2.1 ∧ d4.2.2.2.1 < (↑(Int.toNat d4.1):Int)) (gd ((0:Nat) + Int.toNat d4.2.2.2.1 < List.length d4.2.2.1) (gd ((0:Int) ≤ d4.2.1 ∧ d4.2.1 < (↑(List.length (List.getD d4.2.2.1 ((0:Nat) + Int.toNat d4.2.2.2.1) ([]:List Int))):Int)) (gd ((0:Nat) + Int.toNat d4.2.1 < List.length (List.getD d4.2.2.1 ((0:Nat) + Int.toNat d4.2.2.2.1) ([]:List Int))) (gd (d2.2.2.1 ≠ (0:Int)) (gd ((0:Int) ≤ d4.2.1 ∧ d4.2.1 < (↑(List.length (List.getD d4.2.2.1 ((0:Nat) + Int.toNat d3.2.1) ([]:List Int))):Int)) (gd ((0:Nat) + Int.toNat d4.2.1 < List.length (List.getD d4.2.2.1 ((0:Nat) + Int.toNat d3.2.1) ([]:List Int))) (some (Lp.go (((↑(Int.toNat d4.1):Int), wr IntKind.i64 (d4.2.1 + (1:Int)), List.set d4.2.2.1 ((0:Nat) + Int.toNat d3.2.1) (List.set (List.getD d4.2.2.1 ((0:Nat) + Int.toNat d3.2.1) ([]:List Int)) ((0:Nat) + Int.toNat d4.2.1) (wr IntKind.i64 (Int.tdiv (wr IntKind.i64 (wr IntKind.i64 (List.getD (List.getD d4.2.2.1 ((0:Nat) + Int.toNat d3.2.1) ([]:List Int)) ((0:Nat) + Int.toNat d4.2.1) (0:Int) * List.getD (List.getD d4.2.2.1 ((0:Nat) + Int.toNat d4.2.2.2.1) ([]:List Int)) ((0:Nat) + Int.toNat d4.2.2.2.1) (0:Int)) - wr IntKind.i64 (List.getD (List.getD d4.2.2.1 ((0:Nat) + Int.toNat d3.2.1) ([]:List Int)) ((0:Nat) + Int.toNat d4.2.2.2.1) (0:Int) * List.getD (List.getD d4.2.2.1 ((0:Nat) + Int.toNat d4.2.2.2.1) ([]:List Int)) ((0:Nat) + Int.toNat d4.2.1) (0:Int)))) d2.2.2.1))), d4.2.2.2.1, ()) : Int × Int × List (List Int) × Int × Unit))))))))))))))))))))))) else some (Lp.out (Lp.go (((↑(Int.toNat d4.1):Int), wr IntKind.i64 (d3.2.1 + (1:Int)), d4.2.2.1, d4.2.2.2.1, ()) : Int × Int × List (List Int) × Int × Unit)))
noncomputable def g79_l4 (x0:List Int) (d2 : Int × Int × Int × Int × List (List Int) × Unit) (d3 : Int × Int × List (List Int) × Int × Unit) : Option (Lp (Int × Int × List (List Int) × Int × Unit) (Lp (Int × Int × Int × Int × List (List Int) × Unit) (Lp (Int × Int × List (List Int) × Unit) (Int × Unit)))) := bif ilt d3.2.1 (↑(List.length x0):Int) then whileO (g79_l3 x0 d2 d3) (((↑(Int.toNat d3.1):Int), wr IntKind.i64 (d3.2.2.2.1 + (1:Int)), d3.2.2.1, d3.2.2.2.1, ()) : Int × Int × List (List Int) × Int × Unit) else gd ((0:Int) ≤ d3.2.2.2.1 ∧ d3.2.2.2.1 < (↑(Int.toNat d3.1):Int)) (gd ((0:Nat) + Int.toNat d3.2.2.2.1 < List.length d3.2.2.1) (gd ((0:Int) ≤ d3.2.2.2.1 ∧ d3.2.2.2.1 < (↑(List.length (List.getD d3.2.2.1 ((0:Nat) + Int.toNat d3.2.2.2.1) ([]:List Int))):Int)) (gd ((0:Nat) + Int.toNat d3.2.2.2.1 < List.length (List.getD d3.2.2.1 ((0:Nat) + Int.toNat d3.2.2.2.1) ([]:List Int))) (some (Lp.out (Lp.go (((↑(Int.toNat d3.1):Int), d2.2.1, List.getD (List.getD d3.2.2.1 ((0:Nat) + Int.toNat d3.2.2.2.1) ([]:List Int)) ((0:Nat) + Int.toNat d3.2.2.2.1) (0:Int), wr IntKind.i64 (d2.2.2.2.1 + (1:Int)), d3.2.2.1, ()) : Int × Int × Int × Int × List (List Int) × Unit)))))))
noncomputable def g79 (x0:List Int) : Option (Int × Unit) := gd ((0:Int) ≤ (↑(List.length x0):Int) ∧ (↑(List.length x0):Int) ≤ (↑(List.length x0):Int) ∧ (↑(List.length x0):Int) * (24:Int) ≤ (1099511627776:Int)) (whileO (fun (d1 : Int × Int × List (List Int) × Unit) => bif ilt d1.2.1 (↑(List.length x0):Int) then whileO (g79_l0 x0 d1) (((↑(Int.toNat d1.1):Int), (0:Int), d1.2.2.1, ()) : Int × Int × List (List Int) × Unit) else whileO (fun (d2 : Int × Int × Int × Int × List (List Int) × Unit) => bif ilt d2.2.2.2.1 (wr IntKind.i64 ((↑(List.length x0):Int) - (1:Int))) then gd ((0:Int) ≤ d2.2.2.2.1 ∧ d2.2.2.2.1 ≤ (↑(Int.toNat d2.1):Int)) (gd ((0:Nat) + Int.toNat d2.2.2.2.1 + (Int.toNat d2.1 - Int.toNat d2.2.2.2.1) ≤ List.length d2.2.2.2.2.1) (gd (List.length (List.take (Int.toNat d2.1 - Int.toNat d2.2.2.2.1) (List.drop ((0:Nat) + Int.toNat d2.2.2.2.1) d2.2.2.2.2.1)) ≤ (1000:Nat) ∧ (0:Int) ≤ d2.2.2.2.1 ∧ ∀ (x3:List Int), List.Mem x3 (List.take (Int.toNat d2.1 - Int.toNat d2.2.2.2.1) (List.drop ((0:Nat) + Int.toNat d2.2.2.2.1) d2.2.2.2.2.1)) → d2.2.2.2.1 < (↑(List.length x3):Int)) (bif ilt (ixF (Int.toNat d2.2.2.2.1) (List.take (Int.toNat d2.1 - Int.toNat d2.2.2.2.1) (List.drop ((0:Nat) + Int.toNat d2.2.2.2.1) d2.2.2.2.2.1)) (0:Int)) (0:Int) then some (Lp.out (Lp.out (((0:Int), ()) : Int × Unit))) else bif ilt (0:Int) (ixF (Int.toNat d2.2.2.2.1) (List.take (Int.toNat d2.1 - Int.toNat d2.2.2.2.1) (List.drop ((0:Nat) + Int.toNat d2.2.2.2.1) d2.2.2.2.2.1)) (0:Int)) then gd ((0:Int) ≤ wr IntKind.i64 (d2.2.2.2.1 + ixF (Int.toNat d2.2.2.2.1) (List.take (Int.toNat d2.1 - Int.toNat d2.2.2.2.1) (List.drop ((0:Nat) + Int.toNat d2.2.2.2.1) d2.2.2.2.2.1)) (0:Int)) ∧ wr IntKind.i64 (d2.2.2.2.1 + ixF (Int.toNat d2.2.2.2.1) (List.take (Int.toNat d2.1 - Int.toNat d2.2.2.2.1) (List.drop ((0:Nat) + Int.toNat d2.2.2.2.1) d2.2.2.2.2.1)) (0:Int)) < (↑(Int.toNat d2.1):Int)) (gd ((0:Nat) + Int.toNat (wr IntKind.i64 (d2.2.2.2.1 + ixF (Int.toNat d2.2.2.2.1) (List.take (Int.toNat d2.1 - Int.toNat d2.2.2.2.1) (List.drop ((0:Nat) + Int.toNat d2.2.2.2.1) d2.2.2.2.2.1)) (0:Int))) < List.length d2.2.2.2.2.1) (gd ((0:Int) ≤ d2.2.2.2.1 ∧ d2.2.2.2.1 < (↑(Int.toNat d2.1):Int)) (gd ((0:Nat) + Int.toNat d2.2.2.2.1 < List.length d2.2.2.2.2.1) (gd ((0:Int) ≤ d2.2.2.2.1 ∧ d2.2.2.2.1 < (↑(Int.toNat d2.1):Int)) (gd ((0:Nat) + Int.toNat d2.2.2.2.1 < List.length d2.2.2.2.2.1) (gd ((0:Nat) + Int.toNat (wr IntKind.i64 (d2.2.2.2.1 + ixF (Int.toNat d2.2.2.2.1) (List.take (Int.toNat d2.1 - Int.toNat d2.2.2.2.1) (List.drop ((0:Nat) + Int.toNat d2.2.2.2.1) d2.2.2.2.2.1)) (0:Int))) < List.length d2.2.2.2.2.1) (gd ((0:Nat) + Int.toNat d2.2.2.2.1 = (0:Nat) + Int.toNat d2.2.2.2.1) (gd (List.length (List.getD d2.2.2.2.2.1 ((0:Nat) + Int.toNat (wr IntKind.i64 (d2.2.2.2.1 + ixF (Int.toNat d2.2.2.2.1) (List.take (Int.toNat d2.1 - Int.toNat d2.2.2.2.1) (List.drop ((0:Nat) + Int.toNat d2.2.2.2.1) d2.2.2.2.2.1)) (0:Int)))) ([]:List Int)) = List.length (List.getD d2.2.2.2.2.1 ((0:Nat) + Int.toNat (wr IntKind.i64 (d2.2.2.2.1 + ixF (Int.toNat d2.2.2.2.1) (List.take (Int.toNat d2.1 - Int.toNat d2.2.2.2.1) (List.drop ((0:Nat) + Int.toNat d2.2.2.2.1) d2.2.2.2.2.1)) (0:Int)))) ([]:List Int))) (gd ((0:Int) ≤ wr IntKind.i64 (d2.2.2.2.1 + ixF (Int.toNat d2.2.2.2.1) (List.take (Int.toNat d2.1 - Int.toNat d2.2.2.2.1) (List.drop ((0:Nat) + Int.toNat d2.2.2.2.1) d2.2.2.2.2.1)) (0:Int)) ∧ wr IntKind.i64 (d2.2.2.2.1 + ixF (Int.toNat d2.2.2.2.1) (List.take (Int.toNat d2.1 - Int.toNat d2.2.2.2.1) (List.drop ((0:Nat) + Int.toNat d2.2.2.2.1) d2.2.2.2.2.1)) (0:Int)) < (↑(Int.toNat d2.1):Int)) (gd ((0:Nat) + Int.toNat (wr IntKind.i64 (d2.2.2.2.1 + ixF (Int.toNat d2.2.2.2.1) (List.take (Int.toNat d2.1 - Int.toNat d2.2.2.2.1) (List.drop ((0:Nat) + Int.toNat d2.2.2.2.1) d2.2.2.2.2.1)) (0:Int))) < List.length (swapR d2.2.2.2.2.1 ((0:Nat) + Int.toNat d2.2.2.2.1) ((0:Nat) + Int.toNat (wr IntKind.i64 (d2.2.2.2.1 + ixF (Int.toNat d2.2.2.2.1) (List.take (Int.toNat d2.1 - Int.toNat d2.2.2.2.1) (List.drop ((0:Nat) + Int.toNat d2.2.2.2.1) d2.2.2.2.2.1)) (0:Int)))))) (gd ((0:Nat) + Int.toNat (wr IntKind.i64 (d2.2.2.2.1 + ixF (Int.toNat d2.2.2.2.1) (List.take (Int.toNat d2.1 - Int.toNat d2.2.2.2.1) (List.drop ((0:Nat) + Int.toNat d2.2.2.2.1) d2.2.2.2.2.1)) (0:Int))) = (0:Nat) + Int.toNat (wr IntKind.i64 (d2.2.2.2.1 + ixF (Int.toNat d2.2.2.2.1) (List.take (Int.toNat d2.1 - Int.toNat d2.2.2.2.1) (List.drop ((0:Nat) + Int.toNat d2.2.2.2.1) d2.2.2.2.2.1)) (0:Int)))) (gd ((0:Nat) + Int.toNat (wr IntKind.i64 (d2.2.2.2.1 + ixF (Int.toNat d2.2.2.2.1) (List.take (Int.toNat d2.1 - Int.toNat d2.2.2.2.1) (List.drop ((0:Nat) + Int.toNat d2.2.2.2.1) d2.2.2.2.2.1)) (0:Int))) = (0:Nat) + Int.toNat (wr IntKind.i64 (d2.2.2.2.1 + ixF (Int.toNat d2.2.2.2.1) (List.take (Int.toNat d2.1 - Int.toNat d2.2.2.2.1) (List.drop ((0:Nat) + Int.toNat d2.2.2.2.1) d2.2.2.2.2.1)) (0:Int)))) (gd (List.length (List.getD d2.2.2.2.2.1 ((0:Nat) + Int.toNat d2.2.2.2.1) ([]:List Int)) = List.length (List.getD (swapR d2.2.2.2.2.1 ((0:Nat) + Int.toNat d2.2.2.2.1) ((0:Nat) + Int.toNat (wr IntKind.i64 (d2.2.2.2.1 + ixF (Int.toNat d2.2.2.2.1) (List.take (Int.toNat d2.1 - Int.toNat d2.2.2.2.1) (List.drop ((0:Nat) + Int.toNat d2.2.2.2.1) d2.2.2.2.2.1)) (0:Int))))) ((0:Nat) + Int.toNat (wr IntKind.i64 (d2.2.2.2.1 + ixF (Int.toNat d2.2.2.2.1) (List.take (Int.toNat d2.1 - Int.toNat d2.2.2.2.1) (List.drop ((0:Nat) + Int.toNat d2.2.2.2.1) d2.2.2.2.2.1)) (0:Int)))) ([]:List Int))) (whileO (g79_l2 x0 d2) (((↑(Int.toNat d2.1):Int), wr IntKind.i64 (d2.2.2.2.1 + (1:Int)), swapR d2.2.2.2.2.1 ((0:Nat) + Int.toNat d2.2.2.2.1) ((0:Nat) + Int.toNat (wr IntKind.i64 (d2.2.2.2.1 + ixF (Int.toNat d2.2.2.2.1) (List.take (Int.toNat d2.1 - Int.toNat d2.2.2.2.1) (List.drop ((0:Nat) + Int.toNat d2.2.2.2.1) d2.2.2.2.2.1)) (0:Int)))), d2.2.2.2.1, ()) : Int × Int × List (List Int) × Int × Unit))))))))))))))) else whileO (g79_l4 x0 d2) (((↑(Int.toNat d2.1):Int), wr IntKind.i64 (d2.2.2.2.1 + (1:Int)), d2.2.2.2.2.1, d2.2.2.2.1, ()) : Int × Int × List (List Int) × Int × Unit)))) else gd ((0:Int) ≤ wr IntKind.i64 ((↑(List.length x0):Int) - (1:Int)) ∧ wr IntKind.i64 ((↑(List.length x0):Int) - (1:Int)) < (↑(Int.toNat d2.1):Int)) (gd ((0:Nat) + Int.toNat (wr IntKind.i64 ((↑(List.length x0):Int) - (1:Int))) < List.length d2.2.2.2.2.1) (gd ((0:Int) ≤ wr IntKind.i64 ((↑(List.length x0):Int) - (1:Int)) ∧ wr IntKind.i64 ((↑(List.length x0):Int) - (1:Int)) < (↑(List.length (List.getD d2.2.2.2.2.1 ((0:Nat) + Int.toNat (wr IntKind.i64 ((↑(List.length x0):Int) - (1:Int)))) ([]:List Int))):Int)) (gd ((0:Nat) + Int.toNat (wr IntKind.i64 ((↑(List.length x0):Int) - (1:Int))) < List.length (List.getD d2.2.2.2.2.1 ((0:Nat) + Int.toNat (wr IntKind.i64 ((↑(List.length x0):Int) - (1:Int)))) ([]:List Int))) (some (Lp.out (Lp.out ((wr IntKind.i64 (d2.2.1 * List.getD (List.getD d2.2.2.2.2.1 ((0:Nat) + Int.toNat (wr IntKind.i64 ((↑(List.length x0):Int) - (1:Int)))) ([]:List Int)) ((0:Nat) + Int.toNat (wr IntKind.i64 ((↑(List.length x0):Int) - (1:Int)))) (0:Int)), ()) : Int × Unit)))))))) (((↑(Int.toNat d1.1):Int), (1:Int), (1:Int), (0:Int), d1.2.2.1, ()) : Int × Int × Int × Int × List (List Int) × Unit)) (((↑(List.length x0):Int), (0:Int), List.replicate (List.length x0) ([]:List Int), ()) : Int × Int × List (List Int) × Unit))
noncomputable def g79_sh : List LSh := LSh.mk (((4, TV.sl (0) (1) (0)) : Nat × TV) :: ((20, TV.v (Ty.int IntKind.i64)) : Nat × TV) :: ([] : List (Nat × TV))) (TB.nest (Ty.int IntKind.i64) :: ([] : List TB)) :: LSh.mk (((4, TV.sl (0) (1) (0)) : Nat × TV) :: ((24, TV.v (Ty.int IntKind.i64)) : Nat × TV) :: ([] : List (Nat × TV))) (TB.nest (Ty.int IntKind.i64) :: ([] : List TB)) :: LSh.mk (((4, TV.sl (0) (1) (0)) : Nat × TV) :: ((8, TV.v (Ty.int IntKind.i64)) : Nat × TV) :: ((9, TV.v (Ty.int IntKind.i64)) : Nat × TV) :: ((45, TV.v (Ty.int IntKind.i64)) : Nat × TV) :: ([] : List (Nat × TV))) (TB.nest (Ty.int IntKind.i64) :: ([] : List TB)) :: LSh.mk (((4, TV.sl (0) (1) (0)) : Nat × TV) :: ((10, TV.ref (1) (1:Nat) (0:Nat) (0:Nat)) : Nat × TV) :: ((12, TV.v (Ty.int IntKind.i64)) : Nat × TV) :: ([] : List (Nat × TV))) (TB.nest (Ty.int IntKind.i64) :: TB.cells (TV.v (Ty.int IntKind.i64) :: ([] : List TV)) :: ([] : List TB)) :: LSh.mk (((4, TV.sl (0) (1) (0)) : Nat × TV) :: ((10, TV.ref (1) (1:Nat) (0:Nat) (0:Nat)) : Nat × TV) :: ((13, TV.v (Ty.int IntKind.i64)) : Nat × TV) :: ([] : List (Nat × TV))) (TB.nest (Ty.int IntKind.i64) :: TB.cells (TV.v (Ty.int IntKind.i64) :: ([] : List TV)) :: ([] : List TB)) :: ([] : List LSh)
end Go.Signs
set_option linter.unusedVariables false
set_option linter.unusedSimpArgs false
namespace Go.Signs
open Go Go.Ab Go.Proofs
def matL (n:Nat) (a : Nat → Nat → Int) : List (List Int) := (List.range n).map fun r => (List.range n).map fun c => a r c
theorem matL_len {n : Nat} {a : Nat → Nat → Int} : (matL n a).length = n := by simp [matL]
theorem matL_row {n : Nat} {a : Nat → Nat → Int} {i : Nat} (h : i < n) : (matL n a).getD i [] = (List.range n).map fun c => a i c := by
  simp [matL, List.getD_eq_getElem?_getD, h]
theorem row_at {n : Nat} {f : Nat → Int} {j : Nat} (h : j < n) : ((List.range n).map f).getD j 0 = f j := by
  simp [List.getD_eq_getElem?_getD, h]
theorem matL_at {n : Nat} {a : Nat → Nat → Int} {i j : Nat} (h : i < n) (hj : j < n) : ((matL n a).getD i []).getD j 0 = a i j := by rw [matL_row h, row_at hj]
theorem matL_rlen {n : Nat} {a : Nat → Nat → Int} {i : Nat} (h : i < n) : ((matL n a).getD i []).length = n := by rw [matL_row h]; simp
theorem matL_congr {n : Nat} {a b : Nat → Nat → Int} (h : ∀ i j, i < n → j < n → a i j = b i j) : matL n a = matL n b := by
  unfold matL
  refine List.map_congr_left fun i hi => List.map_congr_left fun j hj => h i j (List.mem_range.1 hi) (List.mem_range.1 hj)
theorem matL_get {n : Nat} {a : Nat → Nat → Int} {i : Nat} (h : i < n) : (matL n a)[i]? = some ((List.range n).map fun c => a i c) := by simp [matL, h]
theorem map_set {n : Nat} {f : Nat → Int} {j : Nat} {v : Int} : ((List.range n).map f).set j v = (List.range n).map fun c => if c = j then v else f c := by
  apply List.ext_getElem?
  intro m
  by_cases hm : m < n
  · by_cases e : j = m
    · subst e; rw [List.getElem?_set_self (by simpa using hm)]; simp [hm]
    · rw [List.getElem?_set_ne e]; simp [hm, show m ≠ j from fun h => e h.symm]
  · rw [List.getElem?_eq_none (by simp; omega), List.getElem?_eq_none (by simp; omega)]
theorem matL_set {n : Nat} {a : Nat → Nat → Int} {i j : Nat} {v : Int} (hi : i < n) : (matL n a).set i (((matL n a).getD i []).set j v) = matL n (fun r c => if r = i ∧ c = j then v else a r c) := by
  rw [matL_row hi, map_set]
  apply List.ext_getElem?
  intro m
  by_cases hm : m < n
  · rw [matL_get hm]
    by_cases e : i = m
    · subst e; rw [List.getElem?_set_self (by rw [matL_len]; exact hi)]; simp
    · rw [List.getElem?_set_ne e, matL_get hm]; simp [show m ≠ i from fun h => e h.symm]
  · rw [List.getElem?_eq_none (by simp [matL]; omega), List.getElem?_eq_none (by simp [matL]; omega)]
theorem matL_swap {n : Nat} {a : Nat → Nat → Int} {i j : Nat} (hi : i < n) (hj : j < n) : swapR (matL n a) i j = matL n (swp a i j) := by
  unfold swapR
  rw [matL_row hi, matL_row hj]
  apply List.ext_getElem?
  intro m
  by_cases hm : m < n
  · rw [matL_get hm]
    unfold swp
    by_cases e : j = m
    · subst e
      rw [List.getElem?_set_self (by simp [matL]; exact hj)]
      by_cases e2 : j = i
      · simp [e2]
      · simp [e2]
    · rw [List.getElem?_set_ne e]
      by_cases e2 : i = m
      · subst e2; rw [List.getElem?_set_self (by simp [matL]; exact hi)]; simp
      · rw [List.getElem?_set_ne e2, matL_get hm]; simp [show m ≠ i from fun h => e2 h.symm, show m ≠ j from fun h => e h.symm]
  · rw [List.getElem?_eq_none (by simp [matL]; omega), List.getElem?_eq_none (by simp [matL]; omega)]
def mixA (b a : Nat → Nat → Int) (k i j:Nat) : Nat → Nat → Int := fun r c => if k < r ∧ k < c ∧ (r < i ∨ (r = i ∧ c < j)) then b r c else a r c
def nxtA (a : Nat → Nat → Int) (p:Int) (k:Nat) : Nat → Nat → Int := fun r c => if k < r ∧ k < c then (a r c * a k k - a r k * a k c).tdiv p else a r c
theorem mix_start {b a : Nat → Nat → Int} {k : Nat} : mixA b a k (k + 1) (k + 1) = a := by
  funext r c; unfold mixA; rw [if_neg (by omega)]
theorem mix_at {b a : Nat → Nat → Int} {k i j : Nat} : mixA b a k i j i j = a i j := by unfold mixA; rw [if_neg (by omega)]
theorem mix_col {b a : Nat → Nat → Int} {k i j r : Nat} : mixA b a k i j r k = a r k := by unfold mixA; rw [if_neg (by omega)]
theorem mix_row {b a : Nat → Nat → Int} {k i j c : Nat} : mixA b a k i j k c = a k c := by unfold mixA; rw [if_neg (by omega)]
theorem mix_set {b a : Nat → Nat → Int} {k i j : Nat} (hi : k < i) (hj : k < j) : (fun r c => if r = i ∧ c = j then b i j else mixA b a k i j r c) = mixA b a k i (j + 1) := by
  funext r c
  unfold mixA
  by_cases h : r = i ∧ c = j
  · rw [if_pos h, if_pos (by omega), h.1, h.2]
  · rw [if_neg h]
    by_cases h2 : k < r ∧ k < c ∧ (r < i ∨ (r = i ∧ c < j))
    · rw [if_pos h2, if_pos (by omega)]
    · rw [if_neg h2, if_neg (by omega)]
theorem mix_next {b a : Nat → Nat → Int} {n k i : Nat} (hi : k < i) : matL n (mixA b a k i n) = matL n (mixA b a k (i + 1) (k + 1)) := matL_congr fun r c hr hc => by
  unfold mixA
  by_cases h2 : k < r ∧ k < c ∧ (r < i ∨ (r = i ∧ c < n))
  · rw [if_pos h2, if_pos (by omega)]
  · rw [if_neg h2, if_neg (by omega)]
theorem mix_end {a : Nat → Nat → Int} {p : Int} {n k : Nat} : matL n (mixA (nxtA a p k) a k n (k + 1)) = matL n (nxtA a p k) := matL_congr fun r c hr hc => by
  unfold mixA
  by_cases h2 : k < r ∧ k < c ∧ (r < n ∨ (r = n ∧ c < k + 1))
  · rw [if_pos h2]
  · rw [if_neg h2]; unfold nxtA; rw [if_neg (by omega)]
theorem swp_same {A : Nat → Nat → Int} {r : Nat} : swp A r r = A := by
  funext i; unfold swp
  by_cases h : i = r
  · rw [if_pos h, h]
  · rw [if_neg h, if_neg h]
theorem ixF_none {k : Nat} : ∀ {l : List (List Int)} {i : Int}, 0 ≤ i → (ixF k l i < 0 ↔ ∀ r ∈ l, r.getD k 0 = 0)
  | [], i, _ => by simp [ixF]
  | r :: l, i, h => by
    rw [ixF]
    by_cases hr : r.getD k 0 ≠ 0
    · rw [if_pos hr]
      exact ⟨fun h2 => by omega, fun h2 => absurd (h2 r (List.mem_cons_self ..)) hr⟩
    · rw [if_neg hr, ixF_none (by omega)]
      simp only [List.mem_cons, forall_eq_or_imp]
      exact ⟨fun h2 => ⟨by simpa using hr, h2⟩, fun h2 => h2.2⟩
theorem ixF_some {k : Nat} : ∀ {l : List (List Int)} {i : Int}, 0 ≤ ixF k l i → 0 ≤ i → ∃ p : Nat, ixF k l i = i + p ∧ p < l.length ∧ (l.getD p []).getD k 0 ≠ 0 ∧ ∀ q, q < p → (l.getD q []).getD k 0 = 0
  | [], i, h, _ => by simp [ixF] at h
  | r :: l, i, h, h0 => by
    rw [ixF] at h ⊢
    by_cases hr : r.getD k 0 ≠ 0
    · rw [if_pos hr]; exact ⟨0, by simp, by simp, by simpa using hr, fun q hq => by omega⟩
    · rw [if_neg hr] at h ⊢
      obtain ⟨p, h1, h2, h3, h4⟩ := ixF_some h (by omega)
      refine ⟨p + 1, by rw [h1]; omega, by simpa using h2, by simpa using h3, fun q hq => ?_⟩
      cases q with
      | zero => simpa using hr
      | succ q => simpa using h4 q (by omega)
theorem tail_at {n k p : Nat} {a : Nat → Nat → Int} (h : k + p < n) : (((matL n a).drop k).take (n - k)).getD p [] = (matL n a).getD (k + p) [] := by
  simp only [List.getD_eq_getElem?_getD]
  rw [List.getElem?_take_of_lt (by omega), List.getElem?_drop]
theorem tail_len {n k : Nat} {a : Nat → Nat → Int} (h : k ≤ n) : (((matL n a).drop k).take (n - k)).length = n - k := by
  rw [List.length_take, List.length_drop, matL_len]; omega
theorem tail_mem {n k : Nat} {a : Nat → Nat → Int} {r : List Int} (h : r ∈ ((matL n a).drop k).take (n - k)) : r.length = n ∧ ∃ i, k ≤ i ∧ i < n ∧ r = (matL n a).getD i [] := by
  obtain ⟨p, hp, rfl⟩ := List.getElem_of_mem h
  have hp' : p < n - k := by
    have := hp
    rw [List.length_take, List.length_drop, matL_len] at this; omega
  have e : (((matL n a).drop k).take (n - k))[p] = (matL n a).getD (k + p) [] := by
    rw [← tail_at (by omega), List.getD_eq_getElem?_getD, List.getElem?_eq_getElem hp]; rfl
  rw [e]
  exact ⟨matL_rlen (by omega), k + p, by omega, by omega, rfl⟩
theorem elim_loop {S X : Type} {n : Nat} {st : S → Option (Lp S X)} (mk : Int → Int → Nat → List (List Int) → S) (fin : Int → X)
    (hnone : ∀ (k:Nat) (s p:Int) (a A : Nat → Nat → Int), k + 1 < n → BI n k a A p → pm A → (s = 1 ∨ s = -1) → (∀ i, k ≤ i → i < n → a i k = 0) → st (mk s p k (matL n a)) = some (.out (fin 0)))
    (hgo : ∀ (k q:Nat) (s p:Int) (a A : Nat → Nat → Int), k + 1 < n → BI n k a A p → pm A → (s = 1 ∨ s = -1) → k ≤ q → q < n → a q k ≠ 0 → (∀ i, k ≤ i → i < q → a i k = 0) →
      st (mk s p k (matL n a)) = some (.go (mk (if q = k then s else -s) (a q k) (k + 1) (matL n (nxtA (swp a k q) p k)))))
    (hend : ∀ (k:Nat) (s p:Int) (a A : Nat → Nat → Int), k + 1 = n → BI n k a A p → pm A → (s = 1 ∨ s = -1) → st (mk s p k (matL n a)) = some (.out (fin (s * a k k)))) :
    ∀ (d k:Nat) (s p:Int) (a A : Nat → Nat → Int), k + d + 1 = n → BI n k a A p → pm A → (s = 1 ∨ s = -1) → whileO st (mk s p k (matL n a)) = some (fin (s * dt n A))
  | 0, k, s, p, a, A, hk, hb, hA, hs => by
    have hk' : k + 1 = n := by omega
    rw [whileO_out (hend k s p a A hk' hb hA hs)]
    subst hk'
    rw [hb.last]
  | d + 1, k, s, p, a, A, hk, hb, hA, hs => by
    by_cases h : ∀ i, k ≤ i → i < n → a i k = 0
    · rw [whileO_out (hnone k s p a A (by omega) hb hA hs h), hb.none (by omega) h, Int.mul_zero]
    · -- the first that is not 0
      have hex : ∃ q, (k ≤ q ∧ q < n ∧ a q k ≠ 0) ∧ ∀ i, k ≤ i → i < q → a i k = 0 := by
        have h' : ∃ i, k ≤ i ∧ i < n ∧ a i k ≠ 0 := by
          refine Classical.byContradiction fun hc => h fun i h1 h2 => Classical.byContradiction fun h3 => hc ⟨i, h1, h2, h3⟩
        obtain ⟨i, hi⟩ := h'
        have key : ∀ m i, i ≤ m → (k ≤ i ∧ i < n ∧ a i k ≠ 0) → ∃ q, (k ≤ q ∧ q < n ∧ a q k ≠ 0) ∧ ∀ i, k ≤ i → i < q → a i k = 0 := by
          intro m
          induction m with
          | zero => intro i him hi; exact ⟨i, hi, fun j h1 h2 => by omega⟩
          | succ m ih =>
            intro i him hi
            by_cases hc : ∃ j, j < i ∧ (k ≤ j ∧ j < n ∧ a j k ≠ 0)
            · obtain ⟨j, hj1, hj2⟩ := hc
              exact ih j (by omega) hj2
            · exact ⟨i, hi, fun j h1 h2 => Classical.byContradiction fun h3 => hc ⟨j, h2, h1, by omega, h3⟩⟩
        exact key i i (Nat.le_refl _) hi
      obtain ⟨q, ⟨hq1, hq2, hq3⟩, hq4⟩ := hex
      have hsw := hb.swap hq1 hq2 (by omega)
      have hkk : swp a k q k k = a q k := by unfold swp; rw [if_pos rfl]
      have hb' : BI n (k + 1) (nxtA (swp a k q) p k) (swp A k q) (a q k) := by
        rw [← hkk]
        refine hsw.step (by omega) (by rw [hkk]; exact hq3) fun i j h1 h2 h3 h4 => ?_
        unfold nxtA; rw [if_pos ⟨h1, h3⟩]
      have hs' : (if q = k then s else -s) = 1 ∨ (if q = k then s else -s) = -1 := by split <;> omega
      rw [whileO_go (hgo k q s p a A (by omega) hb hA hs hq1 hq2 hq3 hq4), elim_loop mk fin hnone hgo hend d (k + 1) _ _ _ _ (by omega) hb' (pm_swp hA) hs']
      congr 2
      by_cases e : q = k
      · subst e; rw [if_pos rfl, swp_same]
      · rw [if_neg e, dt_swp (by omega) hq2 (fun h => e h.symm), Int.neg_mul_neg]
end Go.Signs
set_option linter.unusedVariables false
set_option linter.unusedSimpArgs false
namespace Go.Signs
open Go Go.Ab Go.Proofs
theorem whileO_cnt {S X : Type} {step : S → Option (Lp S X)} (st : Nat → S) (n:Nat) (x : X) (hgo : ∀ i, i < n → step (st i) = some (.go (st (i + 1)))) (hout : step (st n) = some (.out x)) : whileO step (st 0) = some x := by
  have key : ∀ c i, i + c = n → whileO step (st i) = some x := by
    intro c
    induction c with
    | zero => intro i hi; have : i = n := by omega
              subst this; exact whileO_out hout
    | succ c ih => intro i hi; exact (whileO_go (hgo i (by omega))).trans (ih (i + 1) (by omega))
  exact key n 0 (by omega)
theorem mul_bd {x y : Int} (hx : -2985984 ≤ x ∧ x ≤ 2985984) (hy : -2985984 ≤ y ∧ y ≤ 2985984) : -8916100448256 ≤ x * y ∧ x * y ≤ 8916100448256 := by
  have h1 : x.natAbs ≤ 2985984 := by omega
  have h2 : y.natAbs ≤ 2985984 := by omega
  have h := Nat.mul_le_mul h1 h2
  rw [← Int.natAbs_mul] at h
  omega
theorem goal94 : con94.goal Try.prog (spOf []) g94_sh [] lm30 := by
  have e : (∀ (r:List Int) (k:Int), (0 ≤ k ∧ k < r.length) → g94 r k = some (!ieq (r.getD k.toNat 0) 0, ())) = con94.goal Try.prog (spOf []) g94_sh [] lm30 := by kernel_rfl
  rw [← e]
  intro r k h
  unfold g94
  rw [gd_pos h]
set_option maxRecDepth 100000 in
theorem ok94 : con94.Ok Try.prog := Con.of_goal mixed okN con94 goal94
theorem goal93 : con93.goal Try.prog (spOf [con94]) g93_sh [] lm30 := by
  have e : (∀ (a:List (List Int)) (k:Int), (a.length ≤ 1000 ∧ 0 ≤ k ∧ ∀ r ∈ a, k < r.length) → g93 a k = some (ixF k.toNat a 0, ())) = con93.goal Try.prog (spOf [con94]) g93_sh [] lm30 := by kernel_rfl
  rw [← e]
  rintro a k ⟨h1, h0, h2⟩
  unfold g93
  have key : ∀ (d i:Nat), i + d = a.length → whileO (fun (d2 : Int × Int × Unit) => bif ilt d2.2.1 (↑(List.length a):Int) then gd ((0:Int) ≤ d2.2.1 ∧ d2.2.1 < (↑(List.length a):Int)) (gd ((0:Int) ≤ d2.1 ∧ d2.1 < (↑(List.length (List.getD a (Int.toNat d2.2.1) ([]:List Int))):Int)) (bif !ieq (List.getD (List.getD a (Int.toNat d2.2.1) ([]:List Int)) (Int.toNat d2.1) (0:Int)) (0:Int) then some (Lp.out ((d2.2.1, ()) : Int × Unit)) else some (Lp.go ((d2.1, wr IntKind.i64 (d2.2.1 + (1:Int)), ()) : Int × Int × Unit)))) else some (Lp.out (((-1:Int), ()) : Int × Unit))) ((k, (i:Int), ()) : Int × Int × Unit) = some (ixF k.toNat (a.drop i) i, ()) := by
    intro d
    induction d with
    | zero =>
      intro i hi
      have : i = a.length := by omega
      subst this
      refine whileO_out ?_
      simp only [ilt_false.2 (Int.le_refl _), cond_false, List.drop_length, ixF]
    | succ d ih =>
      intro i hi
      have hlt : i < a.length := by omega
      have hr : a.getD i [] = a[i] := by rw [List.getD_eq_getElem?_getD, List.getElem?_eq_getElem hlt]; rfl
      have hk := h2 _ (List.getElem_mem hlt)
      rw [List.drop_eq_getElem_cons hlt, ixF]
      by_cases hz : a[i].getD k.toNat 0 = 0
      · rw [if_neg (by simpa using hz)]
        refine (whileO_go (s' := (k, ((i + 1:Nat):Int), ())) ?_).trans (ih (i + 1) (by omega))
        simp only [ilt_iff.2 (show (i:Int) < (a.length:Int) by omega), cond_true, Int.toNat_natCast, hr]
        rw [gd_pos ⟨by omega, by omega⟩, gd_pos ⟨h0, hk⟩, ieq_iff.2 hz, Bool.not_true, cond_false, wr_id (by omega)]; rfl
      · rw [if_pos hz]
        refine whileO_out ?_
        simp only [ilt_iff.2 (show (i:Int) < (a.length:Int) by omega), cond_true, Int.toNat_natCast, hr]
        rw [gd_pos ⟨by omega, by omega⟩, gd_pos ⟨h0, hk⟩, ieq_false.2 hz, Bool.not_false, cond_true]
  exact key a.length 0 (by omega)
set_option maxRecDepth 100000 in
theorem ok93 : con93.Ok Try.prog := Con.of_goal mixed (okC ok94 okN) con93 goal93
section
variable {l : List Int} {n k : Nat} {s p : Int} {a A : Nat → Nat → Int} {R : List (List Int)}
structure NumOk (n k:Nat) (a : Nat → Nat → Int) (p:Int) : Prop where
  n12 : n ≤ 12
  kn : k < n
  p0 : p ≠ 0
  bd : ∀ i j, k ≤ i → i < n → k ≤ j → j < n → -2985984 ≤ a i j ∧ a i j ≤ 2985984
  nb : ∀ i j, k < i → i < n → k < j → j < n → -2985984 ≤ (a i j * a k k - a i k * a k j).tdiv p ∧ (a i j * a k k - a i k * a k j).tdiv p ≤ 2985984
theorem numOk (h : BI n k a A p) (hA : pm A) (hn : n ≤ 12) (hk : k < n) : NumOk n k a p where
  n12 := hn
  kn := hk
  p0 := h.p0
  bd := fun i j h1 h2 h3 h4 => by rw [h.at_ i j h1 h2 h3 h4]; exact pm_mk hA (by omega)
  nb := fun i j h1 h2 h3 h4 => by
    rw [h.exact (by omega) (by omega) h2 (by omega) h4, Int.mul_comm, Int.mul_tdiv_cancel _ h.p0]
    exact pm_mk hA (by omega)
theorem l1_row (hl : l.length = n) (h : NumOk n k a p) {i : Nat} (hi : k < i) (hin : i < n) :
    whileO (g79_l1 l ((n:Int), s, p, (k:Int), R, ()) ((n:Int), (i:Int), matL n (mixA (nxtA a p k) a k i (k + 1)), (k:Int), ())) ((n:Int), ((k + 1:Nat):Int), matL n (mixA (nxtA a p k) a k i (k + 1)), (k:Int), ()) =
      some (Lp.go ((n:Int), ((i + 1:Nat):Int), matL n (mixA (nxtA a p k) a k (i + 1) (k + 1)), (k:Int), ())) := by
  have hn := h.n12
  have hk := h.kn
  refine whileO_cnt (fun j => ((n:Int), ((k + 1 + j:Nat):Int), matL n (mixA (nxtA a p k) a k i (k + 1 + j)), (k:Int), ())) (n - (k + 1)) _ (fun j hj => ?_) ?_
  · have hjn : k + 1 + j < n := by omega
    unfold g79_l1
    have b1 := h.bd i (k + 1 + j) (by omega) hin (by omega) hjn
    have b2 := h.bd k k (Nat.le_refl _) (by omega) (Nat.le_refl _) (by omega)
    have b3 := h.bd i k (by omega) hin (Nat.le_refl _) (by omega)
    have b4 := h.bd k (k + 1 + j) (Nat.le_refl _) (by omega) (by omega) hjn
    have b5 := h.nb i (k + 1 + j) hi hin (by omega) hjn
    have m1 := mul_bd b1 b2
    have m2 := mul_bd b3 b4
    simp only [hl, ilt_iff.2 (show ((k + 1 + j:Nat):Int) < (n:Int) by omega), cond_true, Int.toNat_natCast, Nat.zero_add, matL_at hin hjn, matL_at (show k < n by omega) (show k < n by omega), matL_at hin (show k < n by omega), matL_at (show k < n by omega) hjn, matL_rlen hin, matL_rlen (show k < n by omega), matL_len, mix_at, mix_col, mix_row]
    rw [wr_id (n := a i (k + 1 + j) * a k k) (by omega), wr_id (n := a i k * a k (k + 1 + j)) (by omega), wr_id (n := a i (k + 1 + j) * a k k - a i k * a k (k + 1 + j)) (by omega), wr_id (n := (a i (k + 1 + j) * a k k - a i k * a k (k + 1 + j)).tdiv p) (by omega)]
    have e1 : (matL n (mixA (nxtA a p k) a k i (k + 1 + j))).set i (((matL n (mixA (nxtA a p k) a k i (k + 1 + j))).getD i []).set (k + 1 + j) ((a i (k + 1 + j) * a k k - a i k * a k (k + 1 + j)).tdiv p)) = matL n (mixA (nxtA a p k) a k i (k + 1 + j + 1)) := by
      rw [matL_set hin]
      have : (a i (k + 1 + j) * a k k - a i k * a k (k + 1 + j)).tdiv p = nxtA a p k i (k + 1 + j) := by unfold nxtA; rw [if_pos ⟨hi, by omega⟩]
      rw [this, mix_set hi (by omega)]
    rw [e1]
    repeat rw [gd_pos (by omega)]
    rw [gd_pos h.p0]
    repeat rw [gd_pos (by omega)]
    rw [wr_id (by omega)]
    rfl
  · unfold g79_l1
    have e : k + 1 + (n - (k + 1)) = n := by omega
    simp only [hl, e, ilt_false.2 (Int.le_refl _), cond_false]
    rw [wr_id (by omega), mix_next hi]
    rfl
theorem l31 : g79_l3 = g79_l1 := rfl
theorem l2_all (hl : l.length = n) (h : NumOk n k a p) (hs : s = 1 ∨ s = -1) : whileO (g79_l2 l ((n:Int), s, p, (k:Int), R, ())) ((n:Int), ((k + 1:Nat):Int), matL n a, (k:Int), ()) =
    some (Lp.go ((n:Int), -s, a k k, ((k + 1:Nat):Int), matL n (nxtA a p k), ())) := by
  have hn := h.n12
  have hk := h.kn
  have := whileO_cnt (step := g79_l2 l ((n:Int), s, p, (k:Int), R, ())) (fun i => ((n:Int), ((k + 1 + i:Nat):Int), matL n (mixA (nxtA a p k) a k (k + 1 + i) (k + 1)), (k:Int), ())) (n - (k + 1)) (Lp.go ((n:Int), -s, a k k, ((k + 1:Nat):Int), matL n (nxtA a p k), ())) (fun i hi => ?_) ?_
  · rw [Nat.add_zero, mix_start] at this; exact this
  · unfold g79_l2
    simp only [hl, ilt_iff.2 (show ((k + 1 + i:Nat):Int) < (n:Int) by omega), cond_true, Int.toNat_natCast]
    rw [wr_id (by omega)]
    have h2 := l1_row (l := l) (s := s) (R := R) hl h (i := k + 1 + i) (by omega) (by omega)
    rw [show (k:Int) + 1 = ((k + 1:Nat):Int) by omega]
    rw [h2]; rfl
  · unfold g79_l2
    have e : k + 1 + (n - (k + 1)) = n := by omega
    simp only [hl, e, ilt_false.2 (Int.le_refl _), cond_false, Int.toNat_natCast, Nat.zero_add, matL_at (show k < n by omega) (show k < n by omega), matL_rlen (show k < n by omega), matL_len, mix_row]
    repeat rw [gd_pos (by omega)]
    rw [wr_id (by omega), wr_id (by omega), mix_end, show (0:Int) - s = -s by omega]
    rfl
theorem l4_all (hl : l.length = n) (h : NumOk n k a p) (hs : s = 1 ∨ s = -1) : whileO (g79_l4 l ((n:Int), s, p, (k:Int), R, ())) ((n:Int), ((k + 1:Nat):Int), matL n a, (k:Int), ()) =
    some (Lp.go ((n:Int), s, a k k, ((k + 1:Nat):Int), matL n (nxtA a p k), ())) := by
  have hn := h.n12
  have hk := h.kn
  have := whileO_cnt (step := g79_l4 l ((n:Int), s, p, (k:Int), R, ())) (fun i => ((n:Int), ((k + 1 + i:Nat):Int), matL n (mixA (nxtA a p k) a k (k + 1 + i) (k + 1)), (k:Int), ())) (n - (k + 1)) (Lp.go ((n:Int), s, a k k, ((k + 1:Nat):Int), matL n (nxtA a p k), ())) (fun i hi => ?_) ?_
  · rw [Nat.add_zero, mix_start] at this; exact this
  · unfold g79_l4
    rw [l31]
    simp only [hl, ilt_iff.2 (show ((k + 1 + i:Nat):Int) < (n:Int) by omega), cond_true, Int.toNat_natCast]
    rw [wr_id (by omega)]
    have h2 := l1_row (l := l) (s := s) (R := R) hl h (i := k + 1 + i) (by omega) (by omega)
    rw [show (k:Int) + 1 = ((k + 1:Nat):Int) by omega]
    rw [h2]; rfl
  · unfold g79_l4
    have e : k + 1 + (n - (k + 1)) = n := by omega
    simp only [hl, e, ilt_false.2 (Int.le_refl _), cond_false, Int.toNat_natCast, Nat.zero_add, matL_at (show k < n by omega) (show k < n by omega), matL_rlen (show k < n by omega), matL_len, mix_row]
    repeat rw [gd_pos (by omega)]
    rw [wr_id (by omega), mix_end]
    rfl
def bldL (l:List Int) (n i j:Nat) : List (List Int) := (List.range n).map fun r => (List.range (if r < i then n else if r = i then j else 0)).map fun c => ent l r c
theorem bld_len {i j : Nat} : (bldL l n i j).length = n := by simp [bldL]
theorem bld_row {i j r : Nat} (h : r < n) : (bldL l n i j).getD r [] = (List.range (if r < i then n else if r = i then j else 0)).map fun c => ent l r c := by
  simp [bldL, List.getD_eq_getElem?_getD, h]
theorem bld_at {i j : Nat} (h : i < n) : (bldL l n i j).getD i [] = (List.range j).map fun c => ent l i c := by rw [bld_row h, if_neg (by omega), if_pos rfl]
theorem bld_set {i j : Nat} (h : i < n) : (bldL l n i j).set i (((List.range j).map fun c => ent l i c) ++ [ent l i j]) = bldL l n i (j + 1) := by
  have hg : ∀ {i j m : Nat}, m < n → (bldL l n i j)[m]? = some ((List.range (if m < i then n else if m = i then j else 0)).map fun c => ent l m c) := by intro i j m hm; simp [bldL, hm]
  apply List.ext_getElem?
  intro m
  by_cases hm : m < n
  · rw [hg hm]
    by_cases e : i = m
    · subst e
      rw [List.getElem?_set_self (by rw [bld_len]; exact h), if_neg (by omega), if_pos rfl, List.range_succ, List.map_append]; rfl
    · rw [List.getElem?_set_ne e, hg hm, if_neg (show m ≠ i from fun h => e h.symm)]
      by_cases h2 : m < i
      · rw [if_pos h2, if_pos h2]
      · rw [if_neg h2, if_neg h2, if_neg (show m ≠ i from fun h => e h.symm)]
  · rw [List.getElem?_eq_none (by simp [bldL]; omega), List.getElem?_eq_none (by simp [bldL]; omega)]
theorem bld_next {i : Nat} : bldL l n i n = bldL l n (i + 1) 0 := by
  unfold bldL
  refine List.map_congr_left fun r _ => ?_
  have : (if r < i then n else if r = i then n else 0) = (if r < i + 1 then n else if r = i + 1 then 0 else 0) := by
    by_cases h1 : r < i
    · rw [if_pos h1, if_pos (by omega)]
    · by_cases h2 : r = i
      · rw [if_neg h1, if_pos h2, if_pos (by omega)]
      · rw [if_neg h1, if_neg h2, if_neg (by omega)]; split <;> rfl
  rw [this]
theorem bld_0 : bldL l n 0 0 = List.replicate n [] := by
  apply List.ext_getElem?
  intro m
  by_cases hm : m < n
  · simp [bldL, hm, List.getElem?_replicate]
  · rw [List.getElem?_eq_none (by simp [bldL]; omega), List.getElem?_eq_none (by simp; omega)]
theorem bld_end : bldL l n n 0 = matL n (ent l) := by
  unfold bldL matL
  refine List.map_congr_left fun r hr => ?_
  rw [if_pos (List.mem_range.1 hr)]
theorem isM_iff {m : Int} (h : isM l m = true) : 1 ≤ (l.length:Int) ∧ (l.length:Int) ≤ m ∧ ∀ x ∈ l, 0 ≤ x ∧ x < 2 ^ l.length := by
  unfold isM at h
  rw [Bool.and_eq_true, Bool.and_eq_true, decide_eq_true_iff, decide_eq_true_iff, List.all_eq_true] at h
  refine ⟨h.1.1, h.1.2, fun x hx => ?_⟩
  have := h.2 x hx
  rw [inM_d, Bool.and_eq_true, decide_eq_true_iff, decide_eq_true_iff, Int.toNat_natCast] at this
  exact this
theorem isM_okE (h : isM l 12 = true) {i j : Nat} (hi : i < l.length) (hj : j < l.length) : okE l i j := by
  obtain ⟨h1, h2, h3⟩ := isM_iff h
  refine ⟨by omega, by omega, by omega, by omega, fun x hx => ⟨(h3 x hx).1, ?_⟩⟩
  have hp : (2:Int) ^ l.length ≤ 2 ^ 12 := by
    have : 2 ^ l.length ≤ 2 ^ 12 := Nat.pow_le_pow_right (by omega) (by omega)
    exact_mod_cast this
  have := (h3 x hx).2
  omega
theorem isF_ent {i j : Nat} : (bif isF l i j then (-1:Int) else 1) = ent l i j := by
  unfold isF bit ent sg nx
  rw [Int.toNat_natCast, Int.toNat_natCast]
  cases (l.getD i 0).toNat.testBit j <;> rfl
theorem l0_row (hl : l.length = n) (hM : isM l 12 = true) {i : Nat} (hi : i < n) : whileO (g79_l0 l ((n:Int), (i:Int), bldL l n i 0, ())) ((n:Int), (0:Int), bldL l n i 0, ()) = some (Lp.go ((n:Int), ((i + 1:Nat):Int), bldL l n (i + 1) 0, ())) := by
  have h12 := (isM_iff hM).2.1
  refine whileO_cnt (fun j => ((n:Int), (j:Int), bldL l n i j, ())) n _ (fun j hj => ?_) ?_
  · unfold g79_l0
    simp only [hl, ilt_iff.2 (show ((j:Nat):Int) < (n:Int) by omega), cond_true, Int.toNat_natCast, Nat.zero_add, bld_at hi, bld_len, List.length_set]
    have ht : List.take ((List.range j).map fun c => ent l i c).length ((List.range j).map fun c => ent l i c) = (List.range j).map fun c => ent l i c := List.take_length
    have hlen : ((List.range j).map fun c => ent l i c).length = j := by simp
    have e0 : isF l i j = (isF l i j) := rfl
    rw [gd_pos (isM_okE hM (by omega) (by omega)), ht]
    have he := isF_ent (l := l) (i := i) (j := j)
    cases hf : isF l (i:Int) (j:Int) with
    | true =>
      rw [hf] at he
      simp only [cond_true] at he ⊢
      have e5 : ((List.range j).map fun c => ent l i c) ++ [(-1:Int)] = ((List.range j).map fun c => ent l i c) ++ [ent l i j] := by rw [← he]
      rw [e5, bld_set hi, bld_at hi]
      simp only [List.length_map, List.length_range]
      repeat rw [gd_pos (by omega)]
      rw [wr_id (by omega)]
      simp only [gd_true]; rfl
    | false =>
      rw [hf] at he
      simp only [cond_false] at he ⊢
      have e5 : ((List.range j).map fun c => ent l i c) ++ [(1:Int)] = ((List.range j).map fun c => ent l i c) ++ [ent l i j] := by rw [← he]
      rw [e5, bld_set hi, bld_at hi]
      simp only [List.length_map, List.length_range]
      repeat rw [gd_pos (by omega)]
      rw [wr_id (by omega)]
      simp only [gd_true]; rfl
  · unfold g79_l0
    simp only [hl, ilt_false.2 (Int.le_refl _), cond_false, Int.toNat_natCast]
    rw [wr_id (by omega), bld_next]; rfl
end
theorem pm_ent {l : List Int} : pm (ent l) := fun i j => by
  unfold ent sg; split
  · right; rfl
  · left; rfl
theorem goal79 : con79.goal Try.prog (spOf [con64, con93]) g79_sh [900000, 1017, 2068, 2072] lm30 := by
  have e : (∀ (l:List Int), isM l 12 = true → g79 l = some (detF l, ())) = con79.goal Try.prog (spOf [con64, con93]) g79_sh [900000, 1017, 2068, 2072] lm30 := by kernel_rfl
  rw [← e]
  intro l hM
  have hM' := isM_iff hM
  obtain ⟨n, hl⟩ : ∃ n, l.length = n := ⟨_, rfl⟩
  unfold g79 detF
  rw [hl] at hM' ⊢
  simp only [hl]
  rw [gd_pos ⟨by omega, Int.le_refl _, by omega⟩, ← bld_0 (l := l)]
  refine whileO_cnt (fun i => ((n:Int), (i:Int), bldL l n i 0, ())) n _ (fun i hi => ?_) ?_
  · simp only [hl, ilt_iff.2 (show (i:Int) < (n:Int) by omega), cond_true, Int.toNat_natCast]
    exact l0_row hl hM hi
  · simp only [hl, ilt_false.2 (Int.le_refl _), cond_false, Int.toNat_natCast, bld_end]
    have hwn : wr .i64 ((n:Int) - 1) = ((n - 1:Nat):Int) := (wr_id (by omega)).trans (by omega)
    have main := elim_loop (n := n) (S := Int × Int × Int × Int × List (List Int) × Unit) (X := Lp (Int × Int × List (List Int) × Unit) (Int × Unit)) (st := ?st) (fun s p k R => ((n:Int), s, p, (k:Int), R, ())) (fun v => Lp.out (v, ())) ?h1 ?h2 ?h3 (n - 1) 0 1 1 (ent l) (ent l) (by omega) BI.start pm_ent (.inl rfl)
    · rw [Int.one_mul] at main
      exact main
    · intro k s p a A hk hb hA hs hz
      have hix : ixF k (((matL n a).drop k).take (n - k)) 0 < 0 := (ixF_none (Int.le_refl _)).2 fun r hr => by
        obtain ⟨_, i, h1, h2, rfl⟩ := tail_mem hr
        rw [matL_at h2 (by omega)]; exact hz i h1 h2
      simp only [hl, hwn, ilt_iff.2 (show (k:Int) < ((n - 1:Nat):Int) by omega), cond_true, Int.toNat_natCast, Nat.zero_add, ilt_iff.2 hix, matL_len, tail_len (show k ≤ n by omega)]
      rw [gd_pos ⟨by omega, by omega⟩, gd_pos (by omega), gd_pos ⟨by omega, by omega, fun r hr => by have := (tail_mem hr).1; omega⟩]
    · intro k q s p a A hk hb hA hs hq1 hq2 hq3 hq4
      have hno := numOk (hb.swap hq1 hq2 (by omega)) (pm_swp hA (r := k) (s := q)) (by omega) (by omega)
      have hix : ixF k (((matL n a).drop k).take (n - k)) 0 = ((q - k:Nat):Int) := by
        have h0 : 0 ≤ ixF k (((matL n a).drop k).take (n - k)) 0 := by
          rcases Int.lt_or_le (ixF k (((matL n a).drop k).take (n - k)) 0) 0 with h | h
          · exfalso
            have := (ixF_none (Int.le_refl _)).1 h ((matL n a).getD q []) (by
              have e2 := tail_at (n := n) (k := k) (p := q - k) (a := a) (by omega)
              rw [show k + (q - k) = q by omega] at e2
              rw [← e2, List.getD_eq_getElem?_getD, List.getElem?_eq_getElem (by rw [tail_len (by omega)]; omega)]
              exact List.getElem_mem _)
            rw [matL_at hq2 (by omega)] at this
            exact hq3 this
          · exact h
        obtain ⟨t, h1, h2, h3, h4⟩ := ixF_some h0 (Int.le_refl _)
        rw [tail_len (by omega)] at h2
        rw [tail_at (by omega), matL_at (by omega) (by omega)] at h3
        have : k + t = q := by
          rcases Nat.lt_trichotomy (k + t) q with h | h | h
          · exact absurd (hq4 (k + t) (by omega) h) h3
          · exact h
          · have h5 := h4 (q - k) (by omega)
            rw [tail_at (by omega), matL_at (by omega) (by omega), show k + (q - k) = q by omega] at h5
            exact absurd h5 hq3
        rw [h1]; omega
      have hkk : swp a k q k k = a q k := by unfold swp; rw [if_pos rfl]
      simp only [hl, hwn, ilt_iff.2 (show (k:Int) < ((n - 1:Nat):Int) by omega), cond_true, Int.toNat_natCast, Nat.zero_add, hix, ilt_false.2 (show (0:Int) ≤ ((q - k:Nat):Int) by omega), cond_false, matL_len, tail_len (show k ≤ n by omega)]
      rw [gd_pos ⟨by omega, by omega⟩, gd_pos (by omega), gd_pos ⟨by omega, by omega, fun r hr => by have := (tail_mem hr).1; omega⟩]
      have hwq : wr .i64 ((k:Int) + ((q - k:Nat):Int)) = (q:Int) := (wr_id (by omega)).trans (by omega)
      have hwk : wr .i64 ((k:Int) + 1) = ((k + 1:Nat):Int) := wr_id (by omega)
      by_cases hqk : q = k
      · subst hqk
        rw [swp_same] at hno ⊢
        rw [ilt_false.2 (by omega), cond_false, hwk, if_pos rfl]
        exact l4_all hl hno hs
      · rw [ilt_iff.2 (by omega), cond_true, if_neg hqk]
        have hsl : (swapR (matL n a) k q).length = n := by rw [matL_swap (by omega) hq2, matL_len]
        simp only [hwq, hwk, Int.toNat_natCast, matL_swap (show k < n by omega) hq2, matL_len, matL_rlen hq2, matL_rlen (show k < n by omega), gd_true, gd_pos (show k < n by omega), gd_pos hq2]
        rw [← hkk]
        repeat rw [gd_pos (by omega)]
        exact l2_all hl hno hs
    · intro k s p a A hk hb hA hs
      subst hk
      have hbd := pm_mk hA (k := k) (i := k) (j := k) (by omega)
      rw [← hb.at_ k k (Nat.le_refl _) (by omega) (Nat.le_refl _) (by omega)] at hbd
      have hsa : -2985984 ≤ s * a k k ∧ s * a k k ≤ 2985984 := by
        rcases hs with rfl | rfl <;> omega
      simp only [hl, hwn, Nat.add_sub_cancel, ilt_false.2 (Int.le_refl _), cond_false, Int.toNat_natCast, Nat.zero_add, matL_at (show k < k + 1 by omega) (show k < k + 1 by omega), matL_len, matL_rlen (show k < k + 1 by omega)]
      repeat rw [gd_pos (by omega)]
      rw [wr_id (by omega)]
set_option maxRecDepth 100000 in
theorem ok79 : con79.Ok Try.prog := Con.of_goal mixed (okC ok64 (okC ok93 okN)) con79 goal79
end Go.Signs
set_option linter.unusedVariables false
set_option linter.unusedSimpArgs false
namespace Go.Signs
open Go Go.Ab Go.Proofs
def detX (l:List Int) : Int × Int × Unit := if isM l 12 = true then (detF l, 0, ()) else (0, 2, ())
noncomputable def con42 : Con := mkC 42 [.d LI] [I64, I64] (fun (l:List Int) => [small l]) (fun (l:List Int) => detX l)
noncomputable def g42 (x0:List Int) : Option (Int × Int × Unit) := gd (small x0) (gd ((12:Int) ≤ (16:Int)) (bif !isM x0 (12:Int) then some (((0:Int), (2:Int), ()) : Int × Int × Unit) else gd (isM x0 (12:Int) = true) (some ((detF x0, (0:Int), ()) : Int × Int × Unit))))
noncomputable def g42_sh : List LSh := ([] : List LSh)
def mx3 (b d:Int) : Int := max b (max d (-d))
def foldR (f : Int → Int → Int) (top:Int) : Nat → Int → Int → Int
  | 0, _, b => b
  | c + 1, r, b => if r < top then foldR f top c (r + 2) (f r b) else b
def growB (n:Nat) : Nat → Nat → List Int → Int → Int
  | 0, _, _, b => b
  | m + 1, i, h, b => if i = n then mx3 b (detF h) else foldR (fun r b => growB n m (i + 1) (h.set i r) b) (2 ^ n) 33 (h.getD (i - 1) 0) b
structure preW (m:Nat) (i n b:Int) (h:List Int) : Prop where
  n5 : 1 ≤ n ∧ n ≤ 5
  i1 : 1 ≤ i ∧ i ≤ n
  hl : (h.length:Int) = n
  hb : ∀ x ∈ h, 0 ≤ x ∧ x < 2 ^ n.toNat
  h0 : ∀ r : Nat, i ≤ r → h.getD r 0 = 0
  bb : -2985984 ≤ b ∧ b ≤ 2985984
  mu : n - i < m
abbrev Q80 : List TB := [.cells [.v I64], .cells [.slf 4 1], .cells [.v I64], .cells [.fn 80 (.cons (.ref 0 1 0 0) (.cons (.ref 1 1 0 0) (.cons (.ref 2 1 0 0) (.cons (.ref 3 1 0 0) .nil))))], .arr I64 true]
noncomputable def con80 (m:Nat) : SCon := mkS 80 [.v I64, .ref 0 1 0 0, .ref 1 1 0 0, .ref 2 1 0 0, .ref 3 1 0 0] Q80 [] Q80 (fun (i n b:Int) (h:List Int) => [preW m i n b h]) (fun (i n b:Int) (h:List Int) => (n, growB n.toNat m i.toNat h b, h, ()))
noncomputable def g80 (m:Nat) (x0 x1 x2:Int) (x3:List Int) : Option (Int × Int × List Int × Unit) := bif ieq x0 x1 then gd ((0:Nat) + List.length x3 ≤ List.length x3) (gd (isM (List.take (List.length x3) (List.drop (0:Nat) x3)) (12:Int) = true) (gd (List.length x3 = List.length x3) (some ((x1, imax (imax x2 (detF (List.take (List.length x3) (List.drop (0:Nat) x3)))) (wr IntKind.i64 ((0:Int) - detF (List.take (List.length x3) (List.drop (0:Nat) x3)))), x3, ()) : Int × Int × List Int × Unit)))) else gd ((0:Int) ≤ wr IntKind.i64 (x0 - (1:Int)) ∧ wr IntKind.i64 (x0 - (1:Int)) < (↑(List.length x3):Int)) (gd ((0:Nat) + Int.toNat (wr IntKind.i64 (x0 - (1:Int))) < List.length x3) (gd (List.length x3 = List.length x3) (whileO (fun (d5 : Int × Int × Int × List Int × Unit) => gd ((0:Int) ≤ d5.2.1) (bif ilt d5.1 (ishl IntKind.i64 (1:Int) d5.2.1) then gd ((0:Int) ≤ x0 ∧ x0 < (↑(List.length d5.2.2.2.1):Int)) (gd ((0:Nat) + Int.toNat x0 < List.length d5.2.2.2.1) (gd (List.length d5.2.2.2.1 = List.length (List.set d5.2.2.2.1 ((0:Nat) + Int.toNat x0) d5.1)) (gd (preW m (wr IntKind.i64 (x0 + (1:Int))) d5.2.1 d5.2.2.1 (List.set d5.2.2.2.1 ((0:Nat) + Int.toNat x0) d5.1)) (gd (List.length (List.set d5.2.2.2.1 ((0:Nat) + Int.toNat x0) d5.1) = List.length (List.set d5.2.2.2.1 ((0:Nat) + Int.toNat x0) d5.1)) (some (Lp.go ((wr IntKind.i64 (d5.1 + (2:Int)), d5.2.1, growB (Int.toNat d5.2.1) m (Int.toNat (wr IntKind.i64 (x0 + (1:Int)))) (List.set d5.2.2.2.1 ((0:Nat) + Int.toNat x0) d5.1) d5.2.2.1, List.set d5.2.2.2.1 ((0:Nat) + Int.toNat x0) d5.1, ()) : Int × Int × Int × List Int × Unit))))))) else gd ((0:Int) ≤ x0 ∧ x0 < (↑(List.length d5.2.2.2.1):Int)) (gd ((0:Nat) + Int.toNat x0 < List.length d5.2.2.2.1) (gd (List.length d5.2.2.2.1 = List.length (List.set d5.2.2.2.1 ((0:Nat) + Int.toNat x0) (0:Int))) (some (Lp.out ((d5.2.1, d5.2.2.1, List.set d5.2.2.2.1 ((0:Nat) + Int.toNat x0) (0:Int), ()) : Int × Int × List Int × Unit))))))) ((List.getD x3 ((0:Nat) + Int.toNat (wr IntKind.i64 (x0 - (1:Int)))) (0:Int), x1, x2, x3, ()) : Int × Int × Int × List Int × Unit))))
noncomputable def g80_sh : List LSh := LSh.mk3 (((1, TV.ref (0) (1:Nat) (0:Nat) (0:Nat)) : Nat × TV) :: ((2, TV.ref (1) (1:Nat) (0:Nat) (0:Nat)) : Nat × TV) :: ((4, TV.ref (3) (1:Nat) (0:Nat) (0:Nat)) : Nat × TV) :: ((7, TV.v (Ty.int IntKind.i64)) : Nat × TV) :: ([] : List (Nat × TV))) (TB.cells (TV.v (Ty.int IntKind.i64) :: ([] : List TV)) :: TB.cells (TV.slf (4) (1) :: ([] : List TV)) :: TB.cells (TV.v (Ty.int IntKind.i64) :: ([] : List TV)) :: TB.cells (TV.fn (80) (TV.cons (TV.ref (0) (1:Nat) (0:Nat) (0:Nat)) (TV.cons (TV.ref (1) (1:Nat) (0:Nat) (0:Nat)) (TV.cons (TV.ref (2) (1:Nat) (0:Nat) (0:Nat)) (TV.cons (TV.ref (3) (1:Nat) (0:Nat) (0:Nat)) TV.nil)))) :: ([] : List TV)) :: TB.arr (Ty.int IntKind.i64) true :: ([] : List TB)) (5) :: ([] : List LSh)
def mostX (n:Int) : Int × Int × Unit := if 1 ≤ n ∧ n ≤ 5 then (growB n.toNat 6 1 (List.replicate n.toNat 0) 1, 0, ()) else (0, 2, ())
noncomputable def con43 : Con := mkC 43 [.d I64] [I64, I64] (fun (n:Int) => []) (fun (n:Int) => mostX n)
noncomputable def g43 (x0:Int) : Option (Int × Int × Unit) := gd ((!ilt x0 (1:Int)) = true → (!ilt x0 (1:Int)) = true) (gd (ilt x0 (1:Int) = false → (!ilt x0 (1:Int)) = true) (bif bif ilt x0 (1:Int) then true else ilt (5:Int) x0 then some (((0:Int), (2:Int), ()) : Int × Int × Unit) else gd ((0:Int) ≤ x0 ∧ x0 ≤ x0 ∧ x0 * (8:Int) ≤ (1099511627776:Int)) (gd (Int.toNat x0 = List.length (List.replicate (Int.toNat x0) (0:Int))) (gd (preW (6:Nat) (1:Int) x0 (1:Int) (List.replicate (Int.toNat x0) (0:Int))) (some ((growB (Int.toNat x0) (6:Nat) (1:Nat) (List.replicate (Int.toNat x0) (0:Int)) (1:Int), (0:Int), ()) : Int × Int × Unit))))))
noncomputable def g43_sh : List LSh := ([] : List LSh)
end Go.Signs
set_option linter.unusedVariables false
set_option linter.unusedSimpArgs false
namespace Go.Signs
open Go Go.Ab Go.Proofs
theorem goal42 : con42.goal Try.prog (spOf [con62, con79]) g42_sh [] lm30 := by
  have e : (∀ (l:List Int), small l → g42 l = some (detX l)) = con42.goal Try.prog (spOf [con62, con79]) g42_sh [] lm30 := by kernel_rfl
  rw [← e]
  intro l h
  unfold g42 detX
  rw [gd_pos h, gd_pos (by omega)]
  cases hM : isM l 12 with
  | true => simp [gd_true]
  | false => simp
set_option maxRecDepth 100000 in
theorem ok42 : con42.Ok Try.prog := Con.of_goal mixed (okC ok62 (okC ok79 okN)) con42 goal42
section
variable {l : List Int} {n k : Nat} {s p : Int} {a A : Nat → Nat → Int} {R : List (List Int)}
end
end Go.Signs
set_option linter.unusedVariables false
set_option linter.unusedSimpArgs false
namespace Go.Signs
open Go Go.Ab Go.Proofs
theorem foldR_inv {f : Int → Int → Int} {top : Int} {P : Int → Prop} (hf : ∀ r b, P b → P (f r b)) : ∀ {c : Nat} {r b : Int}, P b → P (foldR f top c r b)
  | 0, r, b, h => h
  | c + 1, r, b, h => by
    rw [foldR]; split
    · exact foldR_inv hf (hf r b h)
    · exact h
def bdd (b:Int) : Prop := -2985984 ≤ b ∧ b ≤ 2985984
theorem det_bd {l : List Int} (h : l.length ≤ 12) : bdd (detF l) := pm_bound pm_ent h
theorem mx3_bd {b d : Int} (hb : bdd b) (hd : bdd d) : bdd (mx3 b d) := by unfold mx3 bdd at *; omega
theorem growB_bd {n : Nat} : ∀ {m i : Nat} {h : List Int} {b : Int}, h.length ≤ 12 → bdd b → bdd (growB n m i h b)
  | 0, i, h, b, _, hb => hb
  | m + 1, i, h, b, hl, hb => by
    rw [growB]; split
    · exact mx3_bd hb (det_bd hl)
    · exact foldR_inv (P := bdd) (fun r b hb => growB_bd (by rw [List.length_set]; exact hl) hb) hb
theorem isM_of {h : List Int} {n : Nat} (h1 : 1 ≤ n) (h12 : n ≤ 12) (hl : h.length = n) (hb : ∀ x ∈ h, 0 ≤ x ∧ x < 2 ^ n) : isM h 12 = true := by
  unfold isM
  rw [Bool.and_eq_true, Bool.and_eq_true, decide_eq_true_iff, decide_eq_true_iff, List.all_eq_true]
  refine ⟨⟨by omega, by omega⟩, fun x hx => ?_⟩
  rw [inM_d, Bool.and_eq_true, decide_eq_true_iff, decide_eq_true_iff, hl, Int.toNat_natCast]
  exact hb x hx
theorem pow5 {n : Nat} (h : n ≤ 5) : (2:Int) ^ n ≤ 32 := by
  have : 2 ^ n ≤ 2 ^ 5 := Nat.pow_le_pow_right (by omega) h
  exact_mod_cast this
theorem set_zero {h : List Int} {i : Nat} (h0 : h.getD i 0 = 0) : h.set i 0 = h := by
  apply List.ext_getElem?
  intro m
  by_cases e : i = m
  · subst e
    by_cases hi : i < h.length
    · rw [List.getElem?_set_self hi]
      rw [List.getD_eq_getElem?_getD, List.getElem?_eq_getElem hi] at h0
      rw [List.getElem?_eq_getElem hi]; simpa using h0.symm
    · rw [List.getElem?_eq_none (by simp; omega), List.getElem?_eq_none (by omega)]
  · rw [List.getElem?_set_ne e]
theorem getD_setS {l : List Int} {i j : Nat} {v : Int} : (l.set i v).getD j 0 = if i = j ∧ i < l.length then v else l.getD j 0 := by
  simp only [List.getD_eq_getElem?_getD]
  by_cases e : i = j
  · subst e
    by_cases h : i < l.length
    · rw [List.getElem?_set_self h, if_pos ⟨rfl, h⟩]; rfl
    · rw [if_neg (fun h2 => h h2.2), List.getElem?_eq_none (by simp; omega), List.getElem?_eq_none (by omega)]
  · rw [List.getElem?_set_ne e, if_neg (fun h => e h.1)]
theorem goal80 (m:Nat) : (con80 (m + 1)).goal Try.prog (spS [con80 m] [con79]) g80_sh [] lm30 := by
  have e : (∀ (i n b:Int) (h:List Int), preW (m + 1) i n b h → g80 m i n b h = some (n, growB n.toNat (m + 1) i.toNat h b, h, ())) = (con80 (m + 1)).goal Try.prog (spS [con80 m] [con79]) g80_sh [] lm30 := by kernel_rfl
  rw [← e]
  rintro i n b h ⟨⟨n1, n5⟩, ⟨i1, i2⟩, hl, hb, h0, hbb, hmu⟩
  obtain ⟨N, rfl⟩ : ∃ N : Nat, n = N := ⟨n.toNat, by omega⟩
  obtain ⟨I, rfl⟩ : ∃ I : Nat, i = I := ⟨i.toNat, by omega⟩
  rw [Int.toNat_natCast] at hb
  have hp5 := pow5 (n := N) (by omega)
  unfold g80
  rw [growB]
  simp only [Int.toNat_natCast, Nat.zero_add, List.drop_zero, List.take_length, Nat.le_refl, gd_true]
  by_cases hi : I = N
  · have hd := det_bd (l := h) (by omega)
    unfold bdd at hd
    rw [show ieq (I:Int) (N:Int) = true from ieq_iff.2 (by omega), cond_true, if_pos hi, gd_pos (isM_of (n := N) (by omega) (by omega) (by omega) hb), wr_id (by omega)]
    have : imax (imax b (detF h)) (0 - detF h) = mx3 b (detF h) := by unfold imax mx3; split <;> split <;> omega
    rw [this]
  · rw [show ieq (I:Int) (N:Int) = false from ieq_false.2 (by omega), cond_false, if_neg hi]
    have hw1 : wr .i64 ((I:Int) - 1) = ((I - 1:Nat):Int) := (wr_id (by omega)).trans (by omega)
    have hwi : wr .i64 ((I:Int) + 1) = ((I + 1:Nat):Int) := wr_id (by omega)
    have hsh : ishl .i64 1 (N:Int) = 2 ^ N := by rw [ishl_pow (by omega) (by omega), Int.toNat_natCast]
    simp only [hw1, hwi, Int.toNat_natCast]
    rw [gd_pos ⟨by omega, by omega⟩, gd_pos (by omega)]
    have hprev : 0 ≤ h.getD (I - 1) 0 := by
      have hlt : I - 1 < h.length := by omega
      rw [List.getD_eq_getElem?_getD, List.getElem?_eq_getElem hlt]; exact (hb _ (List.getElem_mem hlt)).1
    have key : ∀ (st : Int × Int × Int × List Int × Unit → Option (Lp (Int × Int × Int × List Int × Unit) (Int × Int × List Int × Unit))),
        (∀ r b h', 0 ≤ r → r < 2 ^ N → bdd b → h' = h ∨ (∃ r', h' = h.set I r') → st (r, (N:Int), b, h', ()) = some (.go (r + 2, (N:Int), growB N m (I + 1) (h.set I r) b, h.set I r, ()))) →
        (∀ r b h', 2 ^ N ≤ r → bdd b → h' = h ∨ (∃ r', h' = h.set I r') → st (r, (N:Int), b, h', ()) = some (.out ((N:Int), b, h, ()))) →
        ∀ (c:Nat) (r b:Int) (h':List Int), 0 ≤ r → 2 ^ N ≤ r + 2 * c → bdd b → (h' = h ∨ ∃ r', h' = h.set I r') → whileO st (r, (N:Int), b, h', ()) = some ((N:Int), foldR (fun r b => growB N m (I + 1) (h.set I r) b) (2 ^ N) c r b, h, ()) := by
      intro st hgo hout c
      induction c with
      | zero => intro r b h' hr hc hb' hh; rw [whileO_out (hout r b h' (by omega) hb' hh)]; rfl
      | succ c ih =>
        intro r b h' hr hc hb' hh
        rw [foldR]
        by_cases hlt : r < 2 ^ N
        · rw [if_pos hlt, whileO_go (hgo r b h' hr hlt hb' hh), ih _ _ _ (by omega) (by omega) (growB_bd (by rw [List.length_set]; omega) hb') (.inr ⟨r, rfl⟩)]
        · rw [if_neg hlt, whileO_out (hout r b h' (by omega) hb' hh)]
    have hset : ∀ h', (h' = h ∨ ∃ r', h' = h.set I r') → ∀ v, h'.length = h.length ∧ h'.set I v = h.set I v := by
      rintro h' (rfl | ⟨r', rfl⟩) v
      · exact ⟨rfl, rfl⟩
      · exact ⟨by rw [List.length_set], by rw [List.set_set]⟩
    refine key _ (fun r b h' hr hlt hb' hh => ?_) (fun r b h' hge hb' hh => ?_) 33 _ b h hprev (by omega) hbb (.inl rfl)
    · obtain ⟨k1, k2⟩ := hset h' hh r
      have hpw : preW m ((I + 1:Nat):Int) (N:Int) b (h.set I r) := by
        refine ⟨⟨by omega, by omega⟩, ⟨by omega, by omega⟩, by rw [List.length_set]; exact hl, fun x hx => ?_, fun q hq => ?_, hb', by omega⟩
        · rw [Int.toNat_natCast]
          rcases List.mem_or_eq_of_mem_set hx with h1 | h1
          · exact hb x h1
          · rw [h1]; exact ⟨hr, hlt⟩
        · rw [getD_setS, if_neg (by omega)]; exact h0 q (by omega)
      simp only [hsh, ilt_iff.2 hlt, cond_true, k1, k2, List.length_set, gd_true]
      rw [gd_pos (by omega), gd_pos ⟨by omega, by omega⟩, gd_pos (by omega), gd_pos hpw, wr_id (by omega)]
      rfl
    · obtain ⟨k1, k2⟩ := hset h' hh 0
      simp only [hsh, ilt_false.2 hge, cond_false, k1, k2, List.length_set, gd_true]
      rw [gd_pos (by omega), gd_pos ⟨by omega, by omega⟩, gd_pos (by omega), set_zero (h0 I (Int.le_refl _))]
set_option maxRecDepth 100000 in
theorem ok80 : ∀ m, (con80 m).Ok Try.prog
  | 0 => ⟨by kernel_rfl, fun Γ w env p r vs em henv hpre hF hp hargs => absurd hp (allD_elim (K := fun env => ∀ p, (con80 0).pre env = some p → ¬ Ab.allP p) (by
      have e : (∀ (i n b:Int) (h:List Int) (p : List Prop), some [preW 0 i n b h] = some p → ¬ Ab.allP p) = (allD ((con80 0).ins.flatMap TV.ts ++ tsB (con80 0).ibl) fun env => ∀ p, (con80 0).pre env = some p → ¬ Ab.allP p) := by kernel_rfl
      rw [← e]
      intro i n b h p hp hq
      cases hp
      have h := (Ab.allP_one.1 hq)
      have h1 := h.mu
      have h2 := h.i1.2
      omega) henv p hpre)⟩
  | m + 1 => SCon.of_goal mixed (okC ok79 okN) (okS (ok80 m) okS0) (con80 (m + 1)) (goal80 m)
theorem goal43 : con43.goal Try.prog (spS [con80 6] []) g43_sh [] lm30 := by
  have e : (∀ (n:Int), g43 n = some (mostX n)) = con43.goal Try.prog (spS [con80 6] []) g43_sh [] lm30 := by kernel_rfl
  rw [← e]
  intro n
  unfold g43 mostX
  by_cases h : 1 ≤ n ∧ n ≤ 5
  · rw [if_pos h, ilt_false.2 h.1, ilt_false.2 h.2]
    have hp : preW 6 1 n 1 (List.replicate n.toNat 0) := by
      refine ⟨h, ⟨Int.le_refl _, h.1⟩, by simp; omega, fun x hx => ?_, fun r hr => ?_, ⟨by decide, by decide⟩, by omega⟩
      · rw [(List.mem_replicate.1 hx).2]
        exact ⟨Int.le_refl _, Int.pow_pos (by decide)⟩
      · rw [List.getD_eq_getElem?_getD, List.getElem?_replicate]; split <;> rfl
    simp only [Bool.not_false, imp_self, gd_true, cond_false, List.length_replicate]
    rw [gd_pos ⟨by omega, Int.le_refl _, by omega⟩, gd_pos hp]
  · rw [if_neg h]
    by_cases h1 : n < 1
    · rw [ilt_iff.2 h1]; simp [gd_true]
    · rw [ilt_false.2 (by omega), ilt_iff.2 (show (5:Int) < n by omega)]; simp [gd_true]
end Go.Signs
set_option linter.unusedVariables false
set_option linter.unusedSimpArgs false
namespace Go.Signs
open Go Go.Ab Go.Proofs
def mostV (n:Nat) : Int := [1, 1, 2, 4, 16, 48].getD n 0
theorem sq_le {d b : Int} (hb : 0 ≤ b) (h : d * d < (b + 1) * (b + 1)) : -b ≤ d ∧ d ≤ b := by
  constructor
  · rcases Int.lt_or_le d (-b) with h1 | h1
    · exfalso
      have h2 : (b + 1) * (b + 1) ≤ (-d) * (-d) := Int.mul_le_mul (by omega) (by omega) (by omega) (by omega)
      rw [Int.neg_mul_neg] at h2
      omega
    · exact h1
  · rcases Int.lt_or_le b d with h1 | h1
    · exfalso
      have h2 : (b + 1) * (b + 1) ≤ d * d := Int.mul_le_mul (by omega) (by omega) (by omega) (by omega)
      omega
    · exact h1
theorem det_max {h : List Int} (h1 : 1 ≤ h.length) (h5 : h.length ≤ 5) : -mostV h.length ≤ detF h ∧ detF h ≤ mostV h.length := by
  have hsq := had_le (n := h.length) (A := ent h) (N := (h.length:Int)) (by omega) fun i _ => pm_dot pm_ent
  obtain ⟨q, hq⟩ := pm_even (A := ent h) (n := h.length - 1) pm_ent
  rw [show h.length - 1 + 1 = h.length by omega] at hq
  have hd : detF h = dt h.length (ent h) := rfl
  rw [← hd] at hsq hq
  generalize detF h = d at *
  have hn : h.length = 1 ∨ h.length = 2 ∨ h.length = 3 ∨ h.length = 4 ∨ h.length = 5 := by omega
  rcases hn with e | e | e | e | e <;> rw [e] at hsq hq ⊢
  · have := sq_le (b := 1) (d := d) (by decide) (by have : ((1:Nat):Int) ^ 1 = 1 := by decide
                                                    omega)
    simp only [mostV, List.getD_cons_succ, List.getD_cons_zero]; exact this
  · have := sq_le (b := 2) (d := d) (by decide) (by have : ((2:Nat):Int) ^ 2 = 4 := by decide
                                                    omega)
    simp only [mostV, List.getD_cons_succ, List.getD_cons_zero]; exact this
  · have := sq_le (b := 5) (d := d) (by decide) (by have : ((3:Nat):Int) ^ 3 = 27 := by decide
                                                    omega)
    have e2 : (2:Int) ^ (3 - 1) = 4 := by decide
    simp only [mostV, List.getD_cons_succ, List.getD_cons_zero]; omega
  · have := sq_le (b := 16) (d := d) (by decide) (by have : ((4:Nat):Int) ^ 4 = 256 := by decide
                                                     omega)
    simp only [mostV, List.getD_cons_succ, List.getD_cons_zero]; exact this
  · have := sq_le (b := 55) (d := d) (by decide) (by have : ((5:Nat):Int) ^ 5 = 3125 := by decide
                                                     omega)
    have e2 : (2:Int) ^ (5 - 1) = 16 := by decide
    simp only [mostV, List.getD_cons_succ, List.getD_cons_zero]; omega
theorem growB_le {n : Nat} (h1 : 1 ≤ n) (h5 : n ≤ 5) : ∀ {m i : Nat} {h : List Int} {b : Int}, h.length = n → b ≤ mostV n → growB n m i h b ≤ mostV n
  | 0, i, h, b, _, hb => hb
  | m + 1, i, h, b, hl, hb => by
    rw [growB]; split
    · have := det_max (h := h) (by omega) (by omega)
      rw [hl] at this
      unfold mx3; omega
    · exact foldR_inv (P := fun b => b ≤ mostV n) (fun r b hb => growB_le h1 h5 (by rw [List.length_set]; exact hl) hb) hb
theorem foldR_mono {f : Int → Int → Int} {top : Int} (hf : ∀ r b, b ≤ f r b) : ∀ {c : Nat} {r b : Int}, b ≤ foldR f top c r b
  | 0, r, b => Int.le_refl _
  | c + 1, r, b => by
    rw [foldR]; split
    · exact Int.le_trans (hf r b) (foldR_mono hf)
    · exact Int.le_refl _
theorem growB_mono {n : Nat} : ∀ {m i : Nat} {h : List Int} {b : Int}, b ≤ growB n m i h b
  | 0, i, h, b => Int.le_refl _
  | m + 1, i, h, b => by
    rw [growB]; split
    · unfold mx3; omega
    · exact foldR_mono fun r b => growB_mono
theorem foldR_ge {f : Int → Int → Int} {top X r0 : Int} (hf : ∀ r b, b ≤ f r b) (hX : ∀ b, X ≤ f r0 b) (h0 : r0 < top) : ∀ {c : Nat} {r b : Int} (t:Nat), r0 = r + 2 * t → t < c → X ≤ foldR f top c r b
  | 0, r, b, t, _, h => by omega
  | c + 1, r, b, t, ht, hc => by
    rw [foldR, if_pos (by omega)]
    cases t with
    | zero =>
      have : r = r0 := by omega
      rw [this]
      exact Int.le_trans (hX b) (foldR_mono hf)
    | succ t => exact foldR_ge hf hX h0 t (by omega) (by omega)
theorem growB_ge {n : Nat} {w : List Int} (hw : w.length = n) (hn : n ≤ 5) (hs : ∀ i, 1 ≤ i → i < n → w.getD (i - 1) 0 ≤ w.getD i 0 ∧ 0 ≤ w.getD (i - 1) 0 ∧ w.getD i 0 < 2 ^ n ∧ (w.getD i 0 - w.getD (i - 1) 0) % 2 = 0) :
    ∀ {m i : Nat} {h : List Int} {b : Int}, n - i < m → 1 ≤ i → i ≤ n → h.length = n → (∀ r, r < i → h.getD r 0 = w.getD r 0) → detF w ≤ growB n m i h b ∧ -detF w ≤ growB n m i h b
  | 0, i, h, b, hm, _, _, _, _ => by omega
  | m + 1, i, h, b, hm, h1, h2, hl, hr => by
    rw [growB]
    by_cases e : i = n
    · rw [if_pos e]
      have : h = w := by
        refine List.ext_getElem (by omega) fun k hk hk2 => ?_
        have := hr k (by omega)
        rw [List.getD_eq_getElem?_getD, List.getElem?_eq_getElem hk, List.getD_eq_getElem?_getD, List.getElem?_eq_getElem hk2] at this
        exact this
      rw [this]; unfold mx3; omega
    · rw [if_neg e]
      obtain ⟨k1, k2, k3, k4⟩ := hs i h1 (by omega)
      have hp5 := pow5 (n := n) hn
      have hX : ∀ b, detF w ≤ growB n m (i + 1) (h.set i (w.getD i 0)) b ∧ -detF w ≤ growB n m (i + 1) (h.set i (w.getD i 0)) b := fun b =>
        growB_ge hw hn hs (by omega) (by omega) (by omega) (by rw [List.length_set]; exact hl) fun r hr2 => by
          rw [getD_setS]
          by_cases e2 : i = r
          · subst e2; rw [if_pos ⟨rfl, by omega⟩]
          · rw [if_neg (fun h => e2 h.1)]; exact hr r (by omega)
      have hprev := hr (i - 1) (by omega)
      rw [hprev]
      have ht : w.getD i 0 = w.getD (i - 1) 0 + 2 * (((w.getD i 0 - w.getD (i - 1) 0) / 2).toNat:Nat) := by omega
      exact ⟨foldR_ge (f := fun r b => growB n m (i + 1) (h.set i r) b) (r0 := w.getD i 0) (fun r b => growB_mono) (fun b => (hX b).1) k3 _ ht (by omega), foldR_ge (f := fun r b => growB n m (i + 1) (h.set i r) b) (r0 := w.getD i 0) (fun r b => growB_mono) (fun b => (hX b).2) k3 _ ht (by omega)⟩
def witM : List (List Int) := [[], [0], [0, 2], [0, 2, 4], [0, 6, 10, 12], [0, 6, 10, 18, 28]]
theorem wit_ok : ∀ n ∈ [1, 2, 3, 4, 5], (witM.getD n []).length = n ∧ (∀ i ∈ List.range n, 1 ≤ i → (witM.getD n []).getD (i - 1) 0 ≤ (witM.getD n []).getD i 0 ∧ 0 ≤ (witM.getD n []).getD (i - 1) 0 ∧ (witM.getD n []).getD i 0 < 2 ^ n ∧ ((witM.getD n []).getD i 0 - (witM.getD n []).getD (i - 1) 0) % 2 = 0) ∧
    (witM.getD n []).getD 0 0 = 0 ∧ (detF (witM.getD n []) = mostV n ∨ -detF (witM.getD n []) = mostV n) := by decide +kernel
theorem growB_val {n : Nat} (h1 : 1 ≤ n) (h5 : n ≤ 5) : growB n 6 1 (List.replicate n 0) 1 = mostV n := by
  have hn : n ∈ [1, 2, 3, 4, 5] := by simp; omega
  obtain ⟨k1, k2, k3, k4⟩ := wit_ok n hn
  have hm : ∀ n ∈ [1, 2, 3, 4, 5], (1:Int) ≤ mostV n := by decide
  have hle := growB_le (n := n) h1 h5 (m := 6) (i := 1) (h := List.replicate n 0) (b := 1) (by simp) (hm n hn)
  have hge := growB_ge (n := n) (w := witM.getD n []) k1 h5 (fun i hi hin => k2 i (List.mem_range.2 hin) hi) (m := 6) (i := 1) (h := List.replicate n 0) (b := 1) (by omega) (Nat.le_refl _) h1 (by simp) (fun r hr => by
    have : r = 0 := by omega
    subst this
    rw [k3, List.getD_eq_getElem?_getD, List.getElem?_replicate]; split <;> rfl)
  omega
theorem most_eq {n : Int} (h : 1 ≤ n ∧ n ≤ 5) : growB n.toNat 6 1 (List.replicate n.toNat 0) 1 = mostV n.toNat := growB_val (by omega) (by omega)
end Go.Signs
set_option linter.unusedVariables false
set_option linter.unusedSimpArgs false
namespace Go.Signs
open Go Go.Ab Go.Proofs
def mostY (n:Int) : Int × Int × Unit := if 1 ≤ n ∧ n ≤ 5 then (mostV n.toNat, 0, ()) else (0, 2, ())
noncomputable def con43w : Con := mkC 43 [.d I64] [I64, I64] (fun (n:Int) => []) (fun (n:Int) => mostY n)
noncomputable def con11 : Con := mkC 11 [.d LI, .d I64] [.bool] (fun (h:List Int) (row:Int) => [small h]) (fun (h:List Int) (row:Int) => (true, ()))
noncomputable def g11_c0 (x0:List Int) : Bool := bif bif ilt (detX (List.take (20:Nat) x0)).1 (-3000000:Int) then true else ilt (3000000:Int) (detX (List.take (20:Nat) x0)).1 then true else !ieq (balX (List.take (20:Nat) x0)).2.1 (0:Int)
noncomputable def g11_c1 (x0:List Int) (x1:Int) : Bool := bif bif g11_c0 x0 then true else !ieq (detX (turnF x0 (ishl IntKind.i64 (1:Int) (wr IntKind.i64 (Int.tmod (wr IntKind.u64 x1) (wr IntKind.u64 (↑(List.length x0):Int))))) (0:Int))).2.1 (0:Int) then true else !ieq (detX (overF x0)).2.1 (0:Int)
noncomputable def g11_c2 (x0:List Int) (x1:Int) (d2 : Int × Int × Unit) : Bool := bif bif g11_c1 x0 x1 then true else ilt d2.1 (wr IntKind.i64 ((detX (List.take (20:Nat) x0)).1 * (detX (List.take (20:Nat) x0)).1)) then true else !beqB (ieq (wr IntKind.i64 ((detX (List.take (20:Nat) x0)).1 * (detX (List.take (20:Nat) x0)).1)) d2.1) (balX (List.take (20:Nat) x0)).1
noncomputable def g11_c3 (x0:List Int) (x1:Int) (d2 : Int × Int × Unit) : Bool := bif g11_c2 x0 x1 d2 then true else !ieq (Int.tmod (detX (List.take (20:Nat) x0)).1 (ishl IntKind.i64 (1:Int) (wr IntKind.i64 ((↑(List.length x0):Int) - (1:Int))))) (0:Int)
noncomputable def g11_c4 (x0:List Int) (x1:Int) : Bool := !ieq (detX (turnF x0 (ishl IntKind.i64 (1:Int) (wr IntKind.i64 (Int.tmod (wr IntKind.u64 x1) (wr IntKind.u64 (↑(List.length x0):Int))))) (0:Int))).1 (wr IntKind.i64 ((0:Int) - (detX (List.take (20:Nat) x0)).1))
noncomputable def g11 (x0:List Int) (x1:Int) : Option (Bool × Unit) := gd (small (List.take (20:Nat) x0)) (gd (small (List.take (20:Nat) x0)) (gd ((!!ieq (detX (List.take (20:Nat) x0)).2.1 (0:Int)) = true → (!!ieq (detX (List.take (20:Nat) x0)).2.1 (0:Int)) = true ∧ small x0 ∧ (12:Int) ≤ (16:Int)) (gd ((!!ieq (detX (List.take (20:Nat) x0)).2.1 (0:Int)) = true → (!!ieq (detX (List.take (20:Nat) x0)).2.1 (0:Int)) = true) (gd ((!ieq (detX (List.take (20:Nat) x0)).2.1 (0:Int)) = false → (!!ieq (detX (List.take (20:Nat) x0)).2.1 (0:Int)) = true) (bif bif !ieq (detX (List.take (20:Nat) x0)).2.1 (0:Int) then true else !isM x0 (12:Int) then gd (ieq (detX (List.take (20:Nat) x0)).2.1 (2:Int) = true → ieq (detX (List.take (20:Nat) x0)).2.1 (2:Int) = true) (some ((bif ieq (detX (List.take (20:Nat) x0)).2.1 (2:Int) then true else false, ()) : Bool × Unit)) else whileO (fun (d2 : Int × Int × Unit) => bif ilt d2.2.1 (↑(List.length x0):Int) then some (Lp.go ((wr IntKind.i64 (d2.1 * (↑(List.length x0):Int)), wr IntKind.i64 (d2.2.1 + (1:Int)), ()) : Int × Int × Unit)) else gd (wr IntKind.u64 (↑(List.length x0):Int) ≠ (0:Int)) (gd ((0:Int) ≤ wr IntKind.i64 (Int.tmod (wr IntKind.u64 x1) (wr IntKind.u64 (↑(List.length x0):Int)))) (gd (isM x0 (16:Int) = true) (gd (small (turnF x0 (ishl IntKind.i64 (1:Int) (wr IntKind.i64 (Int.tmod (wr IntKind.u64 x1) (wr IntKind.u64 (↑(List.length x0):Int))))) (0:Int))) (gd (isM x0 (16:Int) = true) (gd (small (overF x0)) (gd ((!ilt (detX (List.take (20:Nat) x0)).1 (-3000000:Int)) = true → (!ilt (detX (List.take (20:Nat) x0)).1 (-3000000:Int)) = true) (gd (ilt (detX (List.take (20:Nat) x0)).1 (-3000000:Int) = false → (!ilt (detX (List.take (20:Nat) x0)).1 (-3000000:Int)) = true) (gd ((!bif ilt (detX (List.take (20:Nat) x0)).1 (-3000000:Int) then true else ilt (3000000:Int) (detX (List.take (20:Nat) x0)).1) = true → (!bif ilt (detX (List.take (20:Nat) x0)).1 (-3000000:Int) then true else ilt (3000000:Int) (detX (List.take (20:Nat) x0)).1) = true) (gd ((bif ilt (detX (List.take (20:Nat) x0)).1 (-3000000:Int) then true else ilt (3000000:Int) (detX (List.take (20:Nat) x0)).1) = false → (!bif ilt (detX (List.take (20:Nat) x0)).1 (-3000000:Int) then true else ilt (3000000:Int) (detX (List.take (20:Nat) x0)).1) = true) (gd ((!g11_c0 x0) = true → (!g11_c0 x0) = true) (gd (g11_c0 x0 = false → (!g11_c0 x0) = true) (gd ((!bif g11_c0 x0 then true else !ieq (detX (turnF x0 (ishl IntKind.i64 (1:Int) (wr IntKind.i64 (Int.tmod (wr IntKind.u64 x1) (wr IntKind.u64 (↑(List.length x0):Int))))) (0:Int))).2.1 (0:Int)) = true → (!bif g11_c0 x0 then true else !ieq (detX (turnF x0 (ishl IntKind.i64 (1:Int) (wr IntKind.i64 (Int.tmod (wr IntKind.u64 x1) (wr IntKind.u64 (↑(List.length x0):Int))))) (0:Int))).2.1 (0:Int)) = true) (gd ((bif g11_c0 x0 then true else !ieq (detX (turnF x0 (ishl IntKind.i64 (1:Int) (wr IntKind.i64 (Int.tmod (wr IntKind.u64 x1) (wr IntKind.u64 (↑(List.length x0):Int))))) (0:Int))).2.1 (0:Int)) = false → (!bif g11_c0 x0 then true else !ieq (detX (turnF x0 (ishl IntKind.i64 (1:Int) (wr IntKind.i64 (Int.tmod (wr IntKind.u64 x1) (wr IntKind.u64 (↑(List.length x0):Int))))) (0:Int))).2.1 (0:Int)) = true) (gd ((!g11_c1 x0 x1) = true → (!g11_c1 x0 x1) = true ∧ (!g11_c1 x0 x1) = true) (gd ((!g11_c1 x0 x1) = true → (!g11_c1 x0 x1) = true ∧ (!g11_c1 x0 x1) = true) (gd (g11_c1 x0 x1 = false → (!g11_c1 x0 x1) = true) (gd ((!bif g11_c1 x0 x1 then true else ilt d2.1 (wr IntKind.i64 ((detX (List.take (20:Nat) x0)).1 * (detX (List.take (20:Nat) x0)).1))) = true → (!bif g11_c1 x0 x1 then true else ilt d2.1 (wr IntKind.i64 ((detX (List.take (20:Nat) x0)).1 * (detX (List.take (20:Nat) x0)).1))) = true ∧ (!bif g11_c1 x0 x1 then true else ilt d2.1 (wr IntKind.i64 ((detX (List.take (20:Nat) x0)).1 * (detX (List.take (20:Nat) x0)).1))) = true) (gd ((!bif g11_c1 x0 x1 then true else ilt d2.1 (wr IntKind.i64 ((detX (List.take (20:Nat) x0)).1 * (detX (List.take (20:Nat) x0)).1))) = true → (!bif g11_c1 x0 x1 then true else ilt d2.1 (wr IntKind.i64 ((detX (List.take (20:Nat) x0)).1 * (detX (List.take (20:Nat) x0)).1))) = true ∧ (!bif g11_c1 x0 x1 then true else ilt d2.1 (wr IntKind.i64 ((detX (List.take (20:Nat) x0)).1 * (detX (List.take (20:Nat) x0)).1))) = true) (gd ((!bif g11_c1 x0 x1 then true else ilt d2.1 (wr IntKind.i64 ((detX (List.take (20:Nat) x0)).1 * (detX (List.take (20:Nat) x0)).1))) = true → (!bif g11_c1 x0 x1 then true else ilt d2.1 (wr IntKind.i64 ((detX (List.take (20:Nat) x0)).1 * (detX (List.take (20:Nat) x0)).1))) = true ∧ (!bif g11_c1 x0 x1 then true else ilt d2.1 (wr IntKind.i64 ((detX (List.take (20:Nat) x0)).1 * (detX (List.take (20:Nat) x0)).1))) = true) (gd ((bif g11_c1 x0 x1 then true else ilt d2.1 (wr IntKind.i64 ((detX (List.take (20:Nat) x0)).1 * (detX (List.take (20:Nat) x0)).1))) = false → (!bif g11_c1 x0 x1 then true else ilt d2.1 (wr IntKind.i64 ((detX (List.take (20:Nat) x0)).1 * (detX (List.take (20:Nat) x0)).1))) = true) (gd ((!g11_c2 x0 x1 d2) = true → (!g11_c2 x0 x1 d2) = true) (gd ((!g11_c2 x0 x1 d2) = true → (!g11_c2 x0 x1 d2) = true ∧ (0:Int) ≤ wr IntKind.i64 ((↑(List.length x0):Int) - (1:Int))) (gd ((!g11_c2 x0 x1 d2) = true → (!g11_c2 x0 x1 d2) = true ∧ (!g11_c2 x0 x1 d2) = true ∧ ishl IntKind.i64 (1:Int) (wr IntKind.i64 ((↑(List.length x0):Int) - (1:Int))) ≠ (0:Int)) (gd ((!g11_c2 x0 x1 d2) = true → (!g11_c2 x0 x1 d2) = true) (gd (g11_c2 x0 x1 d2 = false → (!g11_c2 x0 x1 d2) = true) (gd ((!g11_c3 x0 x1 d2) = true → (!g11_c3 x0 x1 d2) = true) (gd ((!g11_c3 x0 x1 d2) = true → (!g11_c3 x0 x1 d2) = true ∧ (!g11_c3 x0 x1 d2) = true) (gd (g11_c3 x0 x1 d2 = false → (!g11_c3 x0 x1 d2) = true) (gd ((!bif g11_c3 x0 x1 d2 then true else g11_c4 x0 x1) = true → (!bif g11_c3 x0 x1 d2 then true else g11_c4 x0 x1) = true ∧ (!bif g11_c3 x0 x1 d2 then true else g11_c4 x0 x1) = true) (gd ((bif g11_c3 x0 x1 d2 then true else g11_c4 x0 x1) = false → (!bif g11_c3 x0 x1 d2 then true else g11_c4 x0 x1) = true) (bif bif bif g11_c3 x0 x1 d2 then true else g11_c4 x0 x1 then true else !ieq (detX (overF x0)).1 (detX (List.take (20:Nat) x0)).1 then some (Lp.out ((false, ()) : Bool × Unit)) else gd (ieq (mostY (↑(List.length x0):Int)).2.1 (0:Int) = true → ieq (mostY (↑(List.length x0):Int)).2.1 (0:Int) = true ∧ ieq (mostY (↑(List.length x0):Int)).2.1 (0:Int) = true) (gd (ieq (mostY (↑(List.length x0):Int)).2.1 (0:Int) = true → ieq (mostY (↑(List.length x0):Int)).2.1 (0:Int) = true) (bif bif ieq (mostY (↑(List.length x0):Int)).2.1 (0:Int) then ilt (mostY (↑(List.length x0):Int)).1 (detX (List.take (20:Nat) x0)).1 else false then some (Lp.out ((false, ()) : Bool × Unit)) else some (Lp.out ((true, ()) : Bool × Unit)))))))))))))))))))))))))))))))))))) (((1:Int), (0:Int), ()) : Int × Int × Unit))))))
noncomputable def g11_sh : List LSh := LSh.mk (((10, TV.v (Ty.int IntKind.i64)) : Nat × TV) :: ((44, TV.v (Ty.int IntKind.i64)) : Nat × TV) :: ([] : List (Nat × TV))) ([] : List TB) :: ([] : List LSh)
end Go.Signs
set_option linter.unusedVariables false
set_option linter.unusedSimpArgs false
namespace Go.Signs
open Go Go.Ab Go.Proofs
set_option maxRecDepth 100000 in
theorem goal43w : con43w.goal Try.prog (spS [con80 6] []) g43_sh [] lm30 := by
  have e : (∀ (n:Int), g43 n = some (mostY n)) = con43w.goal Try.prog (spS [con80 6] []) g43_sh [] lm30 := by kernel_rfl
  have e0 : (∀ (n:Int), g43 n = some (mostX n)) = con43.goal Try.prog (spS [con80 6] []) g43_sh [] lm30 := by kernel_rfl
  have this := e0.mpr goal43
  rw [← e]
  intro n
  rw [this n]
  unfold mostX mostY
  by_cases h : 1 ≤ n ∧ n ≤ 5
  · rw [if_pos h, if_pos h, most_eq h]
  · rw [if_neg h, if_neg h]
set_option maxRecDepth 100000 in
theorem ok43w : con43w.Ok Try.prog := Con.of_goalS mixed okN (okS (ok80 6) okS0) con43w goal43w
theorem take12 {l : List Int} : isM (l.take 20) 12 = isM l 12 := by
  by_cases hl : l.length ≤ 20
  · rw [List.take_of_length_le hl]
  · have h1 : isM l 12 = false := by
      unfold isM
      rw [decide_eq_false (show ¬ (l.length:Int) ≤ 12 by omega)]; simp
    have h2 : isM (l.take 20) 12 = false := by
      unfold isM
      rw [List.length_take, decide_eq_false (show ¬ ((min 20 l.length:Nat):Int) ≤ 12 by omega)]; simp
    rw [h1, h2]
theorem det_take {l : List Int} : detX (l.take 20) = detX l := by
  unfold detX
  rw [take12]
  by_cases h : isM l 12 = true
  · have := (isM_iff h).2.1
    rw [if_pos h, if_pos h, List.take_of_length_le (by omega)]
  · rw [if_neg h, if_neg h]
end Go.Signs
set_option linter.unusedVariables false
set_option linter.unusedSimpArgs false
namespace Go.Signs
open Go Go.Ab Go.Proofs
theorem isM_up {l : List Int} (h : isM l 12 = true) : isM l 16 = true := by
  unfold isM at h ⊢
  rw [Bool.and_eq_true, Bool.and_eq_true, decide_eq_true_iff, decide_eq_true_iff] at h ⊢
  exact ⟨⟨h.1.1, by omega⟩, h.2⟩
theorem isM_dn {l : List Int} (h : isM l 16 = true) (h12 : l.length ≤ 12) : isM l 12 = true := by
  unfold isM at h ⊢
  rw [Bool.and_eq_true, Bool.and_eq_true, decide_eq_true_iff, decide_eq_true_iff] at h ⊢
  exact ⟨⟨h.1.1, by omega⟩, h.2⟩
section
variable {l : List Int}
theorem over_len : (overF l).length = l.length := by simp [overF, madeF]
theorem det_over (h : isM l 12 = true) : detF (overF l) = detF l := by
  have h16 := (isM_iff (isM_up h))
  unfold detF
  rw [over_len, ← dt_over]
  refine dt_congr fun i j hi hj => ?_
  unfold overF
  rw [made_ent hj hi]
  unfold isF bit ent nx
  rw [Int.toNat_natCast, Int.toNat_natCast]
theorem rbit_pow {row i : Nat} (hr : row ≤ 16) : rbit ((2 ^ row:Nat):Int) i = decide (i = row) := by
  unfold rbit
  have h1 : (((2 ^ row:Nat):Int)) / ((2 ^ i:Nat):Int) = ((2 ^ row / 2 ^ i:Nat):Int) := by simp
  rw [h1]
  by_cases e : i = row
  · subst e
    rw [Nat.div_self (Nat.two_pow_pos _)]; simp
  · rcases Nat.lt_or_gt_of_ne e with h | h
    · have : 2 ^ row / 2 ^ i = 2 * 2 ^ (row - i - 1) := by
        rw [show row = (row - i - 1) + 1 + i by omega, Nat.pow_add, Nat.mul_div_cancel _ (Nat.two_pow_pos _), Nat.pow_succ, show (row - i - 1) + 1 + i - i - 1 = row - i - 1 by omega, Nat.mul_comm]
      rw [this, decide_eq_false e]
      exact decide_eq_false (by omega)
    · have : 2 ^ row / 2 ^ i = 0 := Nat.div_eq_of_lt (Nat.pow_lt_pow_right (by omega) h)
      rw [this, decide_eq_false e]; decide
theorem det_turn (h : isM l 12 = true) {row : Nat} (hr : row < l.length) : detF (turnF l ((2 ^ row:Nat):Int) 0) = -detF l := by
  have hM := isM_iff h
  unfold detF
  rw [turn_len, ← dt_negrow hr]
  refine dt_congr fun i j hi hj => ?_
  rw [turn_ent hi hj, rbit_pow (by omega)]
  have : modP 0 l.length = 0 := by unfold modP; simp
  rw [this, Nat.zero_testBit]
  by_cases e : i = row
  · subst e; simp [sg]
  · simp [sg, e]
theorem det_sq (h : isM l 12 = true) : detF l * detF l ≤ (l.length:Int) ^ l.length ∧ (detF l * detF l = (l.length:Int) ^ l.length ↔ balF l = true) := by
  have hM := isM_iff h
  have hN : (1:Int) ≤ (l.length:Int) := hM.1
  refine ⟨had_le hN fun i _ => pm_dot pm_ent, ?_⟩
  unfold detF
  rw [had_eq hN fun i _ => pm_dot pm_ent, bal_dot (isM_up h)]
  rfl
theorem det_two (h : isM l 12 = true) : ∃ q, detF l = 2 ^ (l.length - 1) * q := by
  have hM := isM_iff h
  obtain ⟨q, hq⟩ := pm_even (A := ent l) (n := l.length - 1) pm_ent
  rw [show l.length - 1 + 1 = l.length by omega] at hq
  exact ⟨q, hq⟩
end
set_option maxHeartbeats 4000000 in
theorem goal11 : con11.goal Try.prog (spOf [con18, con42, con30, con23, con34, con41, con43w, con24]) g11_sh [] lm30 := by
  have e : (∀ (h:List Int) (row:Int), small h → g11 h row = some (true, ())) = con11.goal Try.prog (spOf [con18, con42, con30, con23, con34, con41, con43w, con24]) g11_sh [] lm30 := by kernel_rfl
  rw [← e]
  intro h row hs
  have ta : small (h.take 20) := by unfold small; rw [List.length_take]; omega
  unfold g11
  rw [gd_pos ta, gd_pos ta]
  simp only [det_take]
  cases hi : isM h 12 with
  | false =>
    have e1 : detX h = (0, 2, ()) := by unfold detX; rw [hi]; rfl
    rw [e1]
    simp [gd_true, ieq, hs]
  | true =>
    have hM := isM_iff hi
    have hM16 := isM_up hi
    have e1 : detX h = (detF h, 0, ()) := by unfold detX; rw [hi]; rfl
    have htake : h.take 20 = h := List.take_of_length_le (by omega)
    have e2 : balX (h.take 20) = (balF h, 0, ()) := by rw [htake]; unfold balX; rw [hM16]; rfl
    have hu : wr .u64 (h.length:Int) = (h.length:Int) := wrapu_nat (by omega)
    obtain ⟨r, hr, hrl⟩ : ∃ r : Nat, wr .i64 (Int.tmod (wr .u64 row) (wr .u64 (h.length:Int))) = (r:Int) ∧ r < h.length := by
      have h0 : 0 ≤ wr .u64 row := by unfold wr; rw [IntKind.wrap_u64]; omega
      rw [hu, Int.tmod_eq_emod_of_nonneg h0]
      have h1 := Int.emod_nonneg (wr .u64 row) (show (h.length:Int) ≠ 0 by omega)
      have h2 := Int.emod_lt_of_pos (wr .u64 row) (show (0:Int) < (h.length:Int) by omega)
      refine ⟨(wr .u64 row % (h.length:Int)).toNat, ?_, by omega⟩
      rw [wr_id (by omega)]; omega
    have hsh : ishl .i64 1 (r:Int) = ((2 ^ r:Nat):Int) := ishl_one (by omega)
    have hT : isM (turnF h ((2 ^ r:Nat):Int) 0) 12 = true := isM_dn (turn_isM hM16) (by rw [turn_len]; omega)
    have e3 : detX (turnF h ((2 ^ r:Nat):Int) 0) = (-detF h, 0, ()) := by unfold detX; rw [hT, det_turn hi hrl]; rfl
    have hO : isM (overF h) 12 = true := isM_dn (made_isM (by omega) (by omega)) (by rw [over_len]; omega)
    have e4 : detX (overF h) = (detF h, 0, ()) := by unfold detX; rw [hO, det_over hi]; rfl
    have hbd := det_bd (l := h) (by omega)
    unfold bdd at hbd
    obtain ⟨hsq, hbal⟩ := det_sq hi
    have hpow : ((h.length:Int)) ^ h.length ≤ 2985984 * 2985984 := pow_self_le h.length (List.mem_range.2 (by omega))
    have hmul := mul_bd hbd hbd
    have hwm : wr .i64 (detF h * detF h) = detF h * detF h := wr_id (by omega)
    have c0 : g11_c0 h = false := by
      unfold g11_c0
      rw [det_take, e1, e2]
      simp only [ilt_false.2 (show (-3000000:Int) ≤ detF h by omega), ilt_false.2 (show detF h ≤ 3000000 by omega)]
      rfl
    have c1 : g11_c1 h row = false := by
      unfold g11_c1
      rw [c0, hr, hsh, e3, e4]; rfl
    have hw1 : wr .i64 ((h.length:Int) - 1) = ((h.length - 1:Nat):Int) := (wr_id (by omega)).trans (by omega)
    have hsh2 : ishl .i64 1 ((h.length - 1:Nat):Int) = ((2 ^ (h.length - 1):Nat):Int) := ishl_one (by omega)
    have hpos : 0 < 2 ^ (h.length - 1) := Nat.two_pow_pos _
    have c2 : ∀ i : Int, g11_c2 h row ((h.length:Int) ^ h.length, i, ()) = false := by
      intro i
      unfold g11_c2
      rw [c1, det_take, e1, e2]
      simp only [hwm, ilt_false.2 hsq, cond_false]
      have : ieq (detF h * detF h) ((h.length:Int) ^ h.length) = balF h := by
        rw [ieq_d, Bool.eq_iff_iff, decide_eq_true_iff]; exact hbal
      rw [this]
      cases balF h <;> rfl
    have c3 : ∀ i : Int, g11_c3 h row ((h.length:Int) ^ h.length, i, ()) = false := by
      intro i
      unfold g11_c3
      obtain ⟨q, hq⟩ := det_two hi
      rw [c2, det_take, e1, hw1, hsh2]
      have : Int.tmod (detF h) ((2 ^ (h.length - 1):Nat):Int) = 0 := by
        rw [hq]
        have e5 : ((2 ^ (h.length - 1):Nat):Int) = 2 ^ (h.length - 1) := by simp
        rw [e5]
        exact Int.mul_tmod_right _ _
      rw [this]; rfl
    have c4 : g11_c4 h row = false := by
      unfold g11_c4
      rw [hr, hsh, e3, det_take, e1]
      simp only []
      rw [wr_id (by omega), show (0:Int) - detF h = -detF h by omega, ieq_iff.2 rfl]; rfl
    have hmost : (bif ieq (mostY (h.length:Int)).2.1 0 then ilt (mostY (h.length:Int)).1 (detF h) else false) = false := by
      unfold mostY
      by_cases h5 : 1 ≤ (h.length:Int) ∧ (h.length:Int) ≤ 5
      · have := det_max (h := h) (by omega) (by omega)
        rw [if_pos h5]
        simp only [Int.toNat_natCast]
        rw [ilt_false.2 this.2]; rfl
      · rw [if_neg h5]; rfl
    rw [hu] at hr
    simp only [e1, hM16, hi, hu, hr, hsh, e4]
    rw [gd_pos (by intro _; exact ⟨rfl, hs, by omega⟩), gd_pos (by intro h; exact h), gd_pos (by intro _; rfl)]
    simp only [show ieq (0:Int) 0 = true from rfl, Bool.not_true, cond_false]
    have hpw : ∀ i, i ≤ h.length → ((h.length:Int)) ^ i ≤ 2985984 * 2985984 := fun i hi2 => Int.le_trans (by
      have : h.length ^ i ≤ h.length ^ h.length := Nat.pow_le_pow_right (by omega) hi2
      exact_mod_cast this) hpow
    have hpp : ∀ i : Nat, (0:Int) ≤ ((h.length:Int)) ^ i := fun i => Int.pow_nonneg (by omega)
    refine whileO_cnt (fun i => (((h.length:Int)) ^ i, (i:Int), ())) h.length _ (fun i hlt => ?_) ?_
    · have h1 := hpw (i + 1) (by omega)
      have h2 := hpp (i + 1)
      rw [Int.pow_succ] at h1 h2
      simp only [ilt_iff.2 (show (i:Int) < (h.length:Int) by omega), cond_true]
      rw [wr_id (by omega), wr_id (by omega), Int.pow_succ]; rfl
    · simp only [ilt_false.2 (Int.le_refl _), cond_false]
      have st : small (turnF h ((2 ^ r:Nat):Int) 0) := by unfold small; rw [turn_len]; omega
      have so : small (overF h) := by unfold small; rw [over_len]; omega
      have k0 : ilt (detF h) (-3000000) = false := ilt_false.2 (by omega)
      have k1 : ilt 3000000 (detF h) = false := ilt_false.2 (by omega)
      simp only [c0, c1, c2, c3, c4, hwm, hw1, hsh2, e3, e4, k0, k1, show ieq (0:Int) 0 = true from rfl, Bool.not_true, Bool.not_false, cond_false, cond_true, imp_self, gd_true, and_self, ilt_false.2 hsq, true_implies, true_and, hmost, ieq_iff.2 (rfl : detF h = detF h), Bool.true_eq_false, false_implies]
      rw [gd_pos (by omega), gd_pos (by omega), gd_pos st, gd_pos so, gd_pos (by omega), gd_pos (by omega)]
set_option maxRecDepth 100000 in
theorem ok11 : con11.Ok Try.prog := Con.of_goal mixed (okC ok18 (okC ok42 (okC ok30 (okC ok23 (okC ok34 (okC ok41 (okC ok43w (okC ok24 okN)))))))) con11 goal11
end Go.Signs
