/- Sums and balance: contracts. -/
import Derived.Test.YtibpopddoggnkaaXS
set_option linter.unusedVariables false
set_option linter.unusedSimpArgs false
namespace Go.Signs
open Go Go.Ab Go.Proofs
def nx (l:List Int) (i:Nat) : Nat := (l.getD i 0).toNat
def balF (l:List Int) : Bool := (List.range l.length).all fun i => (List.range i).all fun k => decide (2 * popN (nx l i ^^^ nx l k) = l.length)
def balX (l:List Int) : Bool × Int × Unit := if isM l 16 = true then (balF l, 0, ()) else (false, 2, ())
def normR (n h r:Nat) : Nat := if (r ^^^ h).testBit 0 = true then (r ^^^ h) ^^^ (2 ^ n - 1) else r ^^^ h
def normF (l:List Int) : List Int := l.map fun (r:Int) => (normR l.length (nx l 0) r.toNat:Int)
def normX (l:List Int) : List Int × Int × Unit := if isM l 16 = true then (normF l, 0, ()) else ([], 2, ())
noncomputable def g5 (x0:List Int) : Option (Bool × Unit) := gd (small (List.take (20:Nat) x0)) (gd (small (List.take (20:Nat) x0)) (gd (small x0) (gd ((16:Int) ≤ (16:Int)) (bif !isM x0 (16:Int) then gd ((!(balX (List.take (20:Nat) x0)).1) = true → (!(balX (List.take (20:Nat) x0)).1) = true) (gd ((!(balX (List.take (20:Nat) x0)).1) = true → (!(balX (List.take (20:Nat) x0)).1) = true) (gd ((!(balX (List.take (20:Nat) x0)).1) = true → (!(balX (List.take (20:Nat) x0)).1) = true) (gd ((bif !(balX (List.take (20:Nat) x0)).1 then ieq (↑(List.length (normX (List.take (20:Nat) x0)).1):Int) (0:Int) else false) = true → (bif !(balX (List.take (20:Nat) x0)).1 then ieq (↑(List.length (normX (List.take (20:Nat) x0)).1):Int) (0:Int) else false) = true) (gd ((bif !(balX (List.take (20:Nat) x0)).1 then ieq (↑(List.length (normX (List.take (20:Nat) x0)).1):Int) (0:Int) else false) = true → (bif !(balX (List.take (20:Nat) x0)).1 then ieq (↑(List.length (normX (List.take (20:Nat) x0)).1):Int) (0:Int) else false) = true) (gd ((bif bif !(balX (List.take (20:Nat) x0)).1 then ieq (↑(List.length (normX (List.take (20:Nat) x0)).1):Int) (0:Int) else false then ieq (balX (List.take (20:Nat) x0)).2.1 (2:Int) else false) = true → (bif bif !(balX (List.take (20:Nat) x0)).1 then ieq (↑(List.length (normX (List.take (20:Nat) x0)).1):Int) (0:Int) else false then ieq (balX (List.take (20:Nat) x0)).2.1 (2:Int) else false) = true) (gd ((bif bif !(balX (List.take (20:Nat) x0)).1 then ieq (↑(List.length (normX (List.take (20:Nat) x0)).1):Int) (0:Int) else false then ieq (balX (List.take (20:Nat) x0)).2.1 (2:Int) else false) = true → (bif bif !(balX (List.take (20:Nat) x0)).1 then ieq (↑(List.length (normX (List.take (20:Nat) x0)).1):Int) (0:Int) else false then ieq (balX (List.take (20:Nat) x0)).2.1 (2:Int) else false) = true) (gd ((bif bif bif !(balX (List.take (20:Nat) x0)).1 then ieq (↑(List.length (normX (List.take (20:Nat) x0)).1):Int) (0:Int) else false then ieq (balX (List.take (20:Nat) x0)).2.1 (2:Int) else false then ieq (normX (List.take (20:Nat) x0)).2.1 (2:Int) else false) = true → (bif bif bif !(balX (List.take (20:Nat) x0)).1 then ieq (↑(List.length (normX (List.take (20:Nat) x0)).1):Int) (0:Int) else false then ieq (balX (List.take (20:Nat) x0)).2.1 (2:Int) else false then ieq (normX (List.take (20:Nat) x0)).2.1 (2:Int) else false) = true) (some ((bif bif bif bif !(balX (List.take (20:Nat) x0)).1 then ieq (↑(List.length (normX (List.take (20:Nat) x0)).1):Int) (0:Int) else false then ieq (balX (List.take (20:Nat) x0)).2.1 (2:Int) else false then ieq (normX (List.take (20:Nat) x0)).2.1 (2:Int) else false then true else false, ()) : Bool × Unit))))))))) else gd (isM x0 (16:Int) = true) (gd (beqB (balX (List.take (20:Nat) x0)).1 (balF x0) = true → beqB (balX (List.take (20:Nat) x0)).1 (balF x0) = true ∧ isM x0 (16:Int) = true) (gd (beqB (balX (List.take (20:Nat) x0)).1 (balF x0) = true → beqB (balX (List.take (20:Nat) x0)).1 (balF x0) = true ∧ beqB (balX (List.take (20:Nat) x0)).1 (balF x0) = true ∧ small (normX (List.take (20:Nat) x0)).1 ∧ small (normF x0)) (gd (beqB (balX (List.take (20:Nat) x0)).1 (balF x0) = true → beqB (balX (List.take (20:Nat) x0)).1 (balF x0) = true) (gd ((bif beqB (balX (List.take (20:Nat) x0)).1 (balF x0) then eqLf ieq (normX (List.take (20:Nat) x0)).1 (normF x0) else false) = true → (bif beqB (balX (List.take (20:Nat) x0)).1 (balF x0) then eqLf ieq (normX (List.take (20:Nat) x0)).1 (normF x0) else false) = true) (gd ((bif beqB (balX (List.take (20:Nat) x0)).1 (balF x0) then eqLf ieq (normX (List.take (20:Nat) x0)).1 (normF x0) else false) = true → (bif beqB (balX (List.take (20:Nat) x0)).1 (balF x0) then eqLf ieq (normX (List.take (20:Nat) x0)).1 (normF x0) else false) = true) (gd ((bif bif beqB (balX (List.take (20:Nat) x0)).1 (balF x0) then eqLf ieq (normX (List.take (20:Nat) x0)).1 (normF x0) else false then ieq (balX (List.take (20:Nat) x0)).2.1 (0:Int) else false) = true → (bif bif beqB (balX (List.take (20:Nat) x0)).1 (balF x0) then eqLf ieq (normX (List.take (20:Nat) x0)).1 (normF x0) else false then ieq (balX (List.take (20:Nat) x0)).2.1 (0:Int) else false) = true) (gd ((bif bif beqB (balX (List.take (20:Nat) x0)).1 (balF x0) then eqLf ieq (normX (List.take (20:Nat) x0)).1 (normF x0) else false then ieq (balX (List.take (20:Nat) x0)).2.1 (0:Int) else false) = true → (bif bif beqB (balX (List.take (20:Nat) x0)).1 (balF x0) then eqLf ieq (normX (List.take (20:Nat) x0)).1 (normF x0) else false then ieq (balX (List.take (20:Nat) x0)).2.1 (0:Int) else false) = true) (gd ((bif bif bif beqB (balX (List.take (20:Nat) x0)).1 (balF x0) then eqLf ieq (normX (List.take (20:Nat) x0)).1 (normF x0) else false then ieq (balX (List.take (20:Nat) x0)).2.1 (0:Int) else false then ieq (normX (List.take (20:Nat) x0)).2.1 (0:Int) else false) = true → (bif bif bif beqB (balX (List.take (20:Nat) x0)).1 (balF x0) then eqLf ieq (normX (List.take (20:Nat) x0)).1 (normF x0) else false then ieq (balX (List.take (20:Nat) x0)).2.1 (0:Int) else false then ieq (normX (List.take (20:Nat) x0)).2.1 (0:Int) else false) = true) (some ((bif bif bif bif beqB (balX (List.take (20:Nat) x0)).1 (balF x0) then eqLf ieq (normX (List.take (20:Nat) x0)).1 (normF x0) else false then ieq (balX (List.take (20:Nat) x0)).2.1 (0:Int) else false then ieq (normX (List.take (20:Nat) x0)).2.1 (0:Int) else false then true else false, ()) : Bool × Unit))))))))))))))
def idI (x:Int) : Int := x
def absI (x:Int) : Int := if x < 0 then -x else x
def rowS (n r t:Nat) : Int := n - 2 * popN (r ^^^ t)
def sumG (g : Int → Int) (l:List Int) (t:Nat) : Nat → Int
  | 0 => 0
  | i + 1 => sumG g l t i + g (rowS l.length (nx l i) t)
def sumX (l:List Int) : Int × Int × Unit := if isM l 16 = true then (sumG idI l 0 l.length, 0, ()) else (0, 2, ())
def maxN (f : Nat → Int) : Nat → Int
  | 0 => 0
  | t + 1 => imax (maxN f t) (f t)
def bestF (l:List Int) : Int := maxN (fun t => sumG absI l t l.length) (2 ^ l.length)
def bestX (l:List Int) : Int × Int × Unit := if isM l 12 = true then (bestF l, 0, ()) else (0, 2, ())
noncomputable def g4 (x0:List Int) : Option (Bool × Unit) := gd (small (List.take (20:Nat) x0)) (gd (small (List.take (20:Nat) x0)) (gd (small x0) (gd ((16:Int) ≤ (16:Int)) (bif !isM x0 (16:Int) then gd (ieq (sumX (List.take (20:Nat) x0)).1 (0:Int) = true → ieq (sumX (List.take (20:Nat) x0)).1 (0:Int) = true) (gd (ieq (sumX (List.take (20:Nat) x0)).1 (0:Int) = true → ieq (sumX (List.take (20:Nat) x0)).1 (0:Int) = true) (gd ((bif ieq (sumX (List.take (20:Nat) x0)).1 (0:Int) then ieq (bestX (List.take (20:Nat) x0)).1 (0:Int) else false) = true → (bif ieq (sumX (List.take (20:Nat) x0)).1 (0:Int) then ieq (bestX (List.take (20:Nat) x0)).1 (0:Int) else false) = true) (gd ((bif ieq (sumX (List.take (20:Nat) x0)).1 (0:Int) then ieq (bestX (List.take (20:Nat) x0)).1 (0:Int) else false) = true → (bif ieq (sumX (List.take (20:Nat) x0)).1 (0:Int) then ieq (bestX (List.take (20:Nat) x0)).1 (0:Int) else false) = true) (gd ((bif bif ieq (sumX (List.take (20:Nat) x0)).1 (0:Int) then ieq (bestX (List.take (20:Nat) x0)).1 (0:Int) else false then ieq (sumX (List.take (20:Nat) x0)).2.1 (2:Int) else false) = true → (bif bif ieq (sumX (List.take (20:Nat) x0)).1 (0:Int) then ieq (bestX (List.take (20:Nat) x0)).1 (0:Int) else false then ieq (sumX (List.take (20:Nat) x0)).2.1 (2:Int) else false) = true) (gd ((bif bif ieq (sumX (List.take (20:Nat) x0)).1 (0:Int) then ieq (bestX (List.take (20:Nat) x0)).1 (0:Int) else false then ieq (sumX (List.take (20:Nat) x0)).2.1 (2:Int) else false) = true → (bif bif ieq (sumX (List.take (20:Nat) x0)).1 (0:Int) then ieq (bestX (List.take (20:Nat) x0)).1 (0:Int) else false then ieq (sumX (List.take (20:Nat) x0)).2.1 (2:Int) else false) = true) (gd ((bif bif bif ieq (sumX (List.take (20:Nat) x0)).1 (0:Int) then ieq (bestX (List.take (20:Nat) x0)).1 (0:Int) else false then ieq (sumX (List.take (20:Nat) x0)).2.1 (2:Int) else false then ieq (bestX (List.take (20:Nat) x0)).2.1 (2:Int) else false) = true → (bif bif bif ieq (sumX (List.take (20:Nat) x0)).1 (0:Int) then ieq (bestX (List.take (20:Nat) x0)).1 (0:Int) else false then ieq (sumX (List.take (20:Nat) x0)).2.1 (2:Int) else false then ieq (bestX (List.take (20:Nat) x0)).2.1 (2:Int) else false) = true) (some ((bif bif bif bif ieq (sumX (List.take (20:Nat) x0)).1 (0:Int) then ieq (bestX (List.take (20:Nat) x0)).1 (0:Int) else false then ieq (sumX (List.take (20:Nat) x0)).2.1 (2:Int) else false then ieq (bestX (List.take (20:Nat) x0)).2.1 (2:Int) else false then true else false, ()) : Bool × Unit)))))))) else gd (isM x0 (16:Int) = true) (gd ((!!ieq (sumX (List.take (20:Nat) x0)).1 (sumG idI x0 (0:Nat) (List.length x0))) = true → (!!ieq (sumX (List.take (20:Nat) x0)).1 (sumG idI x0 (0:Nat) (List.length x0))) = true) (gd ((!ieq (sumX (List.take (20:Nat) x0)).1 (sumG idI x0 (0:Nat) (List.length x0))) = false → (!!ieq (sumX (List.take (20:Nat) x0)).1 (sumG idI x0 (0:Nat) (List.length x0))) = true) (gd ((!bif !ieq (sumX (List.take (20:Nat) x0)).1 (sumG idI x0 (0:Nat) (List.length x0)) then true else !ieq (sumX (List.take (20:Nat) x0)).2.1 (0:Int)) = true → (!bif !ieq (sumX (List.take (20:Nat) x0)).1 (sumG idI x0 (0:Nat) (List.length x0)) then true else !ieq (sumX (List.take (20:Nat) x0)).2.1 (0:Int)) = true) (gd ((bif !ieq (sumX (List.take (20:Nat) x0)).1 (sumG idI x0 (0:Nat) (List.length x0)) then true else !ieq (sumX (List.take (20:Nat) x0)).2.1 (0:Int)) = false → (!bif !ieq (sumX (List.take (20:Nat) x0)).1 (sumG idI x0 (0:Nat) (List.length x0)) then true else !ieq (sumX (List.take (20:Nat) x0)).2.1 (0:Int)) = true) (bif bif bif !ieq (sumX (List.take (20:Nat) x0)).1 (sumG idI x0 (0:Nat) (List.length x0)) then true else !ieq (sumX (List.take (20:Nat) x0)).2.1 (0:Int) then true else false then some ((false, ()) : Bool × Unit) else bif ilt (12:Int) (↑(List.length x0):Int) then gd (ieq (bestX (List.take (20:Nat) x0)).1 (0:Int) = true → ieq (bestX (List.take (20:Nat) x0)).1 (0:Int) = true) (gd (ieq (bestX (List.take (20:Nat) x0)).1 (0:Int) = true → ieq (bestX (List.take (20:Nat) x0)).1 (0:Int) = true) (some ((bif ieq (bestX (List.take (20:Nat) x0)).1 (0:Int) then ieq (bestX (List.take (20:Nat) x0)).2.1 (2:Int) else false, ()) : Bool × Unit))) else gd (isM x0 (12:Int) = true) (gd (ieq (bestX (List.take (20:Nat) x0)).1 (bestF x0) = true → ieq (bestX (List.take (20:Nat) x0)).1 (bestF x0) = true) (gd (ieq (bestX (List.take (20:Nat) x0)).1 (bestF x0) = true → ieq (bestX (List.take (20:Nat) x0)).1 (bestF x0) = true) (some ((bif ieq (bestX (List.take (20:Nat) x0)).1 (bestF x0) then ieq (bestX (List.take (20:Nat) x0)).2.1 (0:Int) else false, ()) : Bool × Unit)))))))))))))
end Go.Signs
set_option linter.unusedVariables false
set_option linter.unusedSimpArgs false
namespace Go.Signs
open Go Go.Ab Go.Proofs
def sumN (f : Nat → Int) : Nat → Int
  | 0 => 0
  | n + 1 => sumN f n + f n
def sg (b:Bool) : Int := if b = true then -1 else 1
theorem sumN_congr {f g : Nat → Int} : ∀ {n : Nat}, (∀ i, i < n → f i = g i) → sumN f n = sumN g n
  | 0, _ => rfl
  | n + 1, h => by rw [sumN, sumN, sumN_congr fun i hi => h i (by omega), h n (by omega)]
theorem sumN_add {f g : Nat → Int} : ∀ {n : Nat}, sumN (fun i => f i + g i) n = sumN f n + sumN g n
  | 0 => rfl
  | n + 1 => by rw [sumN, sumN, sumN, sumN_add]; omega
theorem sumN_mul {f : Nat → Int} {c : Int} : ∀ {n : Nat}, sumN (fun i => c * f i) n = c * sumN f n
  | 0 => by simp [sumN]
  | n + 1 => by rw [sumN, sumN, sumN_mul, Int.mul_add]
theorem sumN_zero : ∀ {n : Nat}, sumN (fun _ => 0) n = 0
  | 0 => rfl
  | n + 1 => by rw [sumN, sumN_zero]; rfl
theorem sumN_swap {f : Nat → Nat → Int} {m : Nat} : ∀ {n : Nat}, sumN (fun i => sumN (fun j => f i j) m) n = sumN (fun j => sumN (fun i => f i j) n) m
  | 0 => by simp only [sumN, sumN_zero]
  | n + 1 => by simp only [sumN]; rw [sumN_swap, ← sumN_add]
section
variable {l : List Int} {m : Int}
end
end Go.Signs
set_option linter.unusedVariables false
set_option linter.unusedSimpArgs false
namespace Go.Signs
open Go Go.Ab Go.Proofs
end Go.Signs
set_option linter.unusedVariables false
set_option linter.unusedSimpArgs false
namespace Go.Signs
open Go Go.Ab Go.Proofs
section
variable {l : List Int} {t : Nat}
end
abbrev Two := Int × Int × Unit
def ent (l:List Int) (i j:Nat) : Int := sg ((nx l i).testBit j)
end Go.Signs
