/- Sums and balance: contracts. -/
import Derived.Test.YtibpopddoggnkaaXS
set_option linter.unusedVariables false
set_option linter.unusedSimpArgs false
namespace Go.Signs
open Go Go.Ab Go.Proofs
def nx (l:List Int) (i:Nat) : Nat := (l.getD i 0).toNat
def balF (l:List Int) : Bool := (List.range l.length).all fun i => (List.range i).all fun k => decide (2 * popN (nx l i ^^^ nx l k) = l.length)
noncomputable def con71 : Con := mkC 71 [.d LI] [.bool] (fun (l:List Int) => [isM l 16 = true]) (fun (l:List Int) => (balF l, ()))
noncomputable def g71_l0 (x0:List Int) (d1 d2 : Int × Unit) : Option (Lp (Int × Unit) (Lp (Int × Unit) (Bool × Unit))) := bif ilt d2.1 (↑(List.length (List.take (Int.toNat d1.1) x0)):Int) then gd ((0:Int) ≤ d2.1 ∧ d2.1 < (↑(List.length (List.take (Int.toNat d1.1) x0)):Int)) (gd (is16 (ixor IntKind.i64 (List.getD x0 (Int.toNat d1.1) (0:Int)) (List.getD (List.take (Int.toNat d1.1) x0) (Int.toNat d2.1) (0:Int)))) (bif !ieq (wr IntKind.i64 ((2:Int) * pop (ixor IntKind.i64 (List.getD x0 (Int.toNat d1.1) (0:Int)) (List.getD (List.take (Int.toNat d1.1) x0) (Int.toNat d2.1) (0:Int))))) (↑(List.length x0):Int) then some (Lp.out (Lp.out ((false, ()) : Bool × Unit))) else some (Lp.go ((wr IntKind.i64 (d2.1 + (1:Int)), ()) : Int × Unit)))) else some (Lp.out (Lp.go ((wr IntKind.i64 (d1.1 + (1:Int)), ()) : Int × Unit)))
noncomputable def g71 (x0:List Int) : Option (Bool × Unit) := whileO (fun (d1 : Int × Unit) => bif ilt d1.1 (↑(List.length x0):Int) then gd ((0:Int) ≤ d1.1 ∧ d1.1 < (↑(List.length x0):Int)) (gd ((0:Int) ≤ d1.1 ∧ d1.1 ≤ (↑(List.length x0):Int)) (whileO (g71_l0 x0 d1) (((0:Int), ()) : Int × Unit))) else some (Lp.out ((true, ()) : Bool × Unit))) (((0:Int), ()) : Int × Unit)
noncomputable def g71_sh : List LSh := LSh.mk (((9, TV.v (Ty.int IntKind.i64)) : Nat × TV) :: ([] : List (Nat × TV))) ([] : List TB) :: LSh.mk (((18, TV.v (Ty.int IntKind.i64)) : Nat × TV) :: ([] : List (Nat × TV))) ([] : List TB) :: ([] : List LSh)
def balX (l:List Int) : Bool × Int × Unit := if isM l 16 = true then (balF l, 0, ()) else (false, 2, ())
noncomputable def con30 : Con := mkC 30 [.d LI] [.bool, I64] (fun (l:List Int) => [small l]) (fun (l:List Int) => balX l)
noncomputable def g30 (x0:List Int) : Option (Bool × Int × Unit) := gd (small x0) (gd ((16:Int) ≤ (16:Int)) (bif !isM x0 (16:Int) then some ((false, (2:Int), ()) : Bool × Int × Unit) else gd (isM x0 (16:Int) = true) (some ((balF x0, (0:Int), ()) : Bool × Int × Unit))))
noncomputable def g30_sh : List LSh := ([] : List LSh)
def normR (n h r:Nat) : Nat := if (r ^^^ h).testBit 0 = true then (r ^^^ h) ^^^ (2 ^ n - 1) else r ^^^ h
def normF (l:List Int) : List Int := l.map fun (r:Int) => (normR l.length (nx l 0) r.toNat:Int)
def normX (l:List Int) : List Int × Int × Unit := if isM l 16 = true then (normF l, 0, ()) else ([], 2, ())
noncomputable def g5 (x0:List Int) : Option (Bool × Unit) := gd (small (List.take (20:Nat) x0)) (gd (small (List.take (20:Nat) x0)) (gd (small x0) (gd ((16:Int) ≤ (16:Int)) (bif !isM x0 (16:Int) then gd ((!(balX (List.take (20:Nat) x0)).1) = true → (!(balX (List.take (20:Nat) x0)).1) = true) (gd ((!(balX (List.take (20:Nat) x0)).1) = true → (!(balX (List.take (20:Nat) x0)).1) = true) (gd ((!(balX (List.take (20:Nat) x0)).1) = true → (!(balX (List.take (20:Nat) x0)).1) = true) (gd ((bif !(balX (List.take (20:Nat) x0)).1 then ieq (↑(List.length (normX (List.take (20:Nat) x0)).1):Int) (0:Int) else false) = true → (bif !(balX (List.take (20:Nat) x0)).1 then ieq (↑(List.length (normX (List.take (20:Nat) x0)).1):Int) (0:Int) else false) = true) (gd ((bif !(balX (List.take (20:Nat) x0)).1 then ieq (↑(List.length (normX (List.take (20:Nat) x0)).1):Int) (0:Int) else false) = true → (bif !(balX (List.take (20:Nat) x0)).1 then ieq (↑(List.length (normX (List.take (20:Nat) x0)).1):Int) (0:Int) else false) = true) (gd ((bif bif !(balX (List.take (20:Nat) x0)).1 then ieq (↑(List.length (normX (List.take (20:Nat) x0)).1):Int) (0:Int) else false then ieq (balX (List.take (20:Nat) x0)).2.1 (2:Int) else false) = true → (bif bif !(balX (List.take (20:Nat) x0)).1 then ieq (↑(List.length (normX (List.take (20:Nat) x0)).1):Int) (0:Int) else false then ieq (balX (List.take (20:Nat) x0)).2.1 (2:Int) else false) = true) (gd ((bif bif !(balX (List.take (20:Nat) x0)).1 then ieq (↑(List.length (normX (List.take (20:Nat) x0)).1):Int) (0:Int) else false then ieq (balX (List.take (20:Nat) x0)).2.1 (2:Int) else false) = true → (bif bif !(balX (List.take (20:Nat) x0)).1 then ieq (↑(List.length (normX (List.take (20:Nat) x0)).1):Int) (0:Int) else false then ieq (balX (List.take (20:Nat) x0)).2.1 (2:Int) else false) = true) (gd ((bif bif bif !(balX (List.take (20:Nat) x0)).1 then ieq (↑(List.length (normX (List.take (20:Nat) x0)).1):Int) (0:Int) else false then ieq (balX (List.take (20:Nat) x0)).2.1 (2:Int) else false then ieq (normX (List.take (20:Nat) x0)).2.1 (2:Int) else false) = true → (bif bif bif !(balX (List.take (20:Nat) x0)).1 then ieq (↑(List.length (normX (List.take (20:Nat) x0)).1):Int) (0:Int) else false then ieq (balX (List.take (20:Nat) x0)).2.1 (2:Int) else false then ieq (normX (List.take (20:Nat) x0)).2.1 (2:Int) else false) = true) (some ((bif bif bif bif !(balX (List.take (20:Nat) x0)).1 then ieq (↑(List.length (normX (List.take (20:Nat) x0)).1):Int) (0:Int) else false then ieq (balX (List.take (20:Nat) x0)).2.1 (2:Int) else false then ieq (normX (List.take (20:Nat) x0)).2.1 (2:Int) else false then true else false, ()) : Bool × Unit))))))))) else gd (isM x0 (16:Int) = true) (gd (beqB (balX (List.take (20:Nat) x0)).1 (balF x0) = true → beqB (balX (List.take (20:Nat) x0)).1 (balF x0) = true ∧ isM x0 (16:Int) = true) (gd (beqB (balX (List.take (20:Nat) x0)).1 (balF x0) = true → beqB (balX (List.take (20:Nat) x0)).1 (balF x0) = true ∧ beqB (balX (List.take (20:Nat) x0)).1 (balF x0) = true ∧ small (normX (List.take (20:Nat) x0)).1 ∧ small (normF x0)) (gd (beqB (balX (List.take (20:Nat) x0)).1 (balF x0) = true → beqB (balX (List.take (20:Nat) x0)).1 (balF x0) = true) (gd ((bif beqB (balX (List.take (20:Nat) x0)).1 (balF x0) then eqLf ieq (normX (List.take (20:Nat) x0)).1 (normF x0) else false) = true → (bif beqB (balX (List.take (20:Nat) x0)).1 (balF x0) then eqLf ieq (normX (List.take (20:Nat) x0)).1 (normF x0) else false) = true) (gd ((bif beqB (balX (List.take (20:Nat) x0)).1 (balF x0) then eqLf ieq (normX (List.take (20:Nat) x0)).1 (normF x0) else false) = true → (bif beqB (balX (List.take (20:Nat) x0)).1 (balF x0) then eqLf ieq (normX (List.take (20:Nat) x0)).1 (normF x0) else false) = true) (gd ((bif bif beqB (balX (List.take (20:Nat) x0)).1 (balF x0) then eqLf ieq (normX (List.take (20:Nat) x0)).1 (normF x0) else false then ieq (balX (List.take (20:Nat) x0)).2.1 (0:Int) else false) = true → (bif bif beqB (balX (List.take (20:Nat) x0)).1 (balF x0) then eqLf ieq (normX (List.take (20:Nat) x0)).1 (normF x0) else false then ieq (balX (List.take (20:Nat) x0)).2.1 (0:Int) else false) = true) (gd ((bif bif beqB (balX (List.take (20:Nat) x0)).1 (balF x0) then eqLf ieq (normX (List.take (20:Nat) x0)).1 (normF x0) else false then ieq (balX (List.take (20:Nat) x0)).2.1 (0:Int) else false) = true → (bif bif beqB (balX (List.take (20:Nat) x0)).1 (balF x0) then eqLf ieq (normX (List.take (20:Nat) x0)).1 (normF x0) else false then ieq (balX (List.take (20:Nat) x0)).2.1 (0:Int) else false) = true) (gd ((bif bif bif beqB (balX (List.take (20:Nat) x0)).1 (balF x0) then eqLf ieq (normX (List.take (20:Nat) x0)).1 (normF x0) else false then ieq (balX (List.take (20:Nat) x0)).2.1 (0:Int) else false then ieq (normX (List.take (20:Nat) x0)).2.1 (0:Int) else false) = true → (bif bif bif beqB (balX (List.take (20:Nat) x0)).1 (balF x0) then eqLf ieq (normX (List.take (20:Nat) x0)).1 (normF x0) else false then ieq (balX (List.take (20:Nat) x0)).2.1 (0:Int) else false then ieq (normX (List.take (20:Nat) x0)).2.1 (0:Int) else false) = true) (some ((bif bif bif bif beqB (balX (List.take (20:Nat) x0)).1 (balF x0) then eqLf ieq (normX (List.take (20:Nat) x0)).1 (normF x0) else false then ieq (balX (List.take (20:Nat) x0)).2.1 (0:Int) else false then ieq (normX (List.take (20:Nat) x0)).2.1 (0:Int) else false then true else false, ()) : Bool × Unit))))))))))))))
def idI (x:Int) : Int := x
def absI (x:Int) : Int := if x < 0 then -x else x
def rowS (n r t:Nat) : Int := n - 2 * popN (r ^^^ t)
def sumG (g : Int → Int) (l:List Int) (t:Nat) : Nat → Int
  | 0 => 0
  | i + 1 => sumG g l t i + g (rowS l.length (nx l i) t)
def sumX (l:List Int) : Int × Int × Unit := if isM l 16 = true then (sumG idI l 0 l.length, 0, ()) else (0, 2, ())
def maxN (f : Nat → Int) : Nat → Int
  | 0 => 0
  | t + 1 => imax (maxN f t) (f t)
def bestF (l:List Int) : Int := maxN (fun t => sumG absI l t l.length) (2 ^ l.length)
def bestX (l:List Int) : Int × Int × Unit := if isM l 12 = true then (bestF l, 0, ()) else (0, 2, ())
noncomputable def g4 (x0:List Int) : Option (Bool × Unit) := gd (small (List.take (20:Nat) x0)) (gd (small (List.take (20:Nat) x0)) (gd (small x0) (gd ((16:Int) ≤ (16:Int)) (bif !isM x0 (16:Int) then gd (ieq (sumX (List.take (20:Nat) x0)).1 (0:Int) = true → ieq (sumX (List.take (20:Nat) x0)).1 (0:Int) = true) (gd (ieq (sumX (List.take (20:Nat) x0)).1 (0:Int) = true → ieq (sumX (List.take (20:Nat) x0)).1 (0:Int) = true) (gd ((bif ieq (sumX (List.take (20:Nat) x0)).1 (0:Int) then ieq (bestX (List.take (20:Nat) x0)).1 (0:Int) else false) = true → (bif ieq (sumX (List.take (20:Nat) x0)).1 (0:Int) then ieq (bestX (List.take (20:Nat) x0)).1 (0:Int) else false) = true) (gd ((bif ieq (sumX (List.take (20:Nat) x0)).1 (0:Int) then ieq (bestX (List.take (20:Nat) x0)).1 (0:Int) else false) = true → (bif ieq (sumX (List.take (20:Nat) x0)).1 (0:Int) then ieq (bestX (List.take (20:Nat) x0)).1 (0:Int) else false) = true) (gd ((bif bif ieq (sumX (List.take (20:Nat) x0)).1 (0:Int) then ieq (bestX (List.take (20:Nat) x0)).1 (0:Int) else false then ieq (sumX (List.take (20:Nat) x0)).2.1 (2:Int) else false) = true → (bif bif ieq (sumX (List.take (20:Nat) x0)).1 (0:Int) then ieq (bestX (List.take (20:Nat) x0)).1 (0:Int) else false then ieq (sumX (List.take (20:Nat) x0)).2.1 (2:Int) else false) = true) (gd ((bif bif ieq (sumX (List.take (20:Nat) x0)).1 (0:Int) then ieq (bestX (List.take (20:Nat) x0)).1 (0:Int) else false then ieq (sumX (List.take (20:Nat) x0)).2.1 (2:Int) else false) = true → (bif bif ieq (sumX (List.take (20:Nat) x0)).1 (0:Int) then ieq (bestX (List.take (20:Nat) x0)).1 (0:Int) else false then ieq (sumX (List.take (20:Nat) x0)).2.1 (2:Int) else false) = true) (gd ((bif bif bif ieq (sumX (List.take (20:Nat) x0)).1 (0:Int) then ieq (bestX (List.take (20:Nat) x0)).1 (0:Int) else false then ieq (sumX (List.take (20:Nat) x0)).2.1 (2:Int) else false then ieq (bestX (List.take (20:Nat) x0)).2.1 (2:Int) else false) = true → (bif bif bif ieq (sumX (List.take (20:Nat) x0)).1 (0:Int) then ieq (bestX (List.take (20:Nat) x0)).1 (0:Int) else false then ieq (sumX (List.take (20:Nat) x0)).2.1 (2:Int) else false then ieq (bestX (List.take (20:Nat) x0)).2.1 (2:Int) else false) = true) (some ((bif bif bif bif ieq (sumX (List.take (20:Nat) x0)).1 (0:Int) then ieq (bestX (List.take (20:Nat) x0)).1 (0:Int) else false then ieq (sumX (List.take (20:Nat) x0)).2.1 (2:Int) else false then ieq (bestX (List.take (20:Nat) x0)).2.1 (2:Int) else false then true else false, ()) : Bool × Unit)))))))) else gd (isM x0 (16:Int) = true) (gd ((!!ieq (sumX (List.take (20:Nat) x0)).1 (sumG idI x0 (0:Nat) (List.length x0))) = true → (!!ieq (sumX (List.take (20:Nat) x0)).1 (sumG idI x0 (0:Nat) (List.length x0))) = true) (gd ((!ieq (sumX (List.take (20:Nat) x0)).1 (sumG idI x0 (0:Nat) (List.length x0))) = false → (!!ieq (sumX (List.take (20:Nat) x0)).1 (sumG idI x0 (0:Nat) (List.length x0))) = true) (gd ((!bif !ieq (sumX (List.take (20:Nat) x0)).1 (sumG idI x0 (0:Nat) (List.length x0)) then true else !ieq (sumX (List.take (20:Nat) x0)).2.1 (0:Int)) = true → (!bif !ieq (sumX (List.take (20:Nat) x0)).1 (sumG idI x0 (0:Nat) (List.length x0)) then true else !ieq (sumX (List.take (20:Nat) x0)).2.1 (0:Int)) = true) (gd ((bif !ieq (sumX (List.take (20:Nat) x0)).1 (sumG idI x0 (0:Nat) (List.length x0)) then true else !ieq (sumX (List.take (20:Nat) x0)).2.1 (0:Int)) = false → (!bif !ieq (sumX (List.take (20:Nat) x0)).1 (sumG idI x0 (0:Nat) (List.length x0)) then true else !ieq (sumX (List.take (20:Nat) x0)).2.1 (0:Int)) = true) (bif bif bif !ieq (sumX (List.take (20:Nat) x0)).1 (sumG idI x0 (0:Nat) (List.length x0)) then true else !ieq (sumX (List.take (20:Nat) x0)).2.1 (0:Int) then true else false then some ((false, ()) : Bool × Unit) else bif ilt (12:Int) (↑(List.length x0):Int) then gd (ieq (bestX (List.take (20:Nat) x0)).1 (0:Int) = true → ieq (bestX (List.take (20:Nat) x0)).1 (0:Int) = true) (gd (ieq (bestX (List.take (20:Nat) x0)).1 (0:Int) = true → ieq (bestX (List.take (20:Nat) x0)).1 (0:Int) = true) (some ((bif ieq (bestX (List.take (20:Nat) x0)).1 (0:Int) then ieq (bestX (List.take (20:Nat) x0)).2.1 (2:Int) else false, ()) : Bool × Unit))) else gd (isM x0 (12:Int) = true) (gd (ieq (bestX (List.take (20:Nat) x0)).1 (bestF x0) = true → ieq (bestX (List.take (20:Nat) x0)).1 (bestF x0) = true) (gd (ieq (bestX (List.take (20:Nat) x0)).1 (bestF x0) = true → ieq (bestX (List.take (20:Nat) x0)).1 (bestF x0) = true) (some ((bif ieq (bestX (List.take (20:Nat) x0)).1 (bestF x0) then ieq (bestX (List.take (20:Nat) x0)).2.1 (0:Int) else false, ()) : Bool × Unit)))))))))))))
end Go.Signs
set_option linter.unusedVariables false
set_option linter.unusedSimpArgs false
namespace Go.Signs
open Go Go.Ab Go.Proofs
def sumN (f : Nat → Int) : Nat → Int
  | 0 => 0
  | n + 1 => sumN f n + f n
def sg (b:Bool) : Int := if b = true then -1 else 1
theorem sumN_congr {f g : Nat → Int} : ∀ {n : Nat}, (∀ i, i < n → f i = g i) → sumN f n = sumN g n
  | 0, _ => rfl
  | n + 1, h => by rw [sumN, sumN, sumN_congr fun i hi => h i (by omega), h n (by omega)]
theorem sumN_add {f g : Nat → Int} : ∀ {n : Nat}, sumN (fun i => f i + g i) n = sumN f n + sumN g n
  | 0 => rfl
  | n + 1 => by rw [sumN, sumN, sumN, sumN_add]; omega
theorem sumN_mul {f : Nat → Int} {c : Int} : ∀ {n : Nat}, sumN (fun i => c * f i) n = c * sumN f n
  | 0 => by simp [sumN]
  | n + 1 => by rw [sumN, sumN, sumN_mul, Int.mul_add]
theorem sumN_zero : ∀ {n : Nat}, sumN (fun _ => 0) n = 0
  | 0 => rfl
  | n + 1 => by rw [sumN, sumN_zero]; rfl
theorem sumN_swap {f : Nat → Nat → Int} {m : Nat} : ∀ {n : Nat}, sumN (fun i => sumN (fun j => f i j) m) n = sumN (fun j => sumN (fun i => f i j) n) m
  | 0 => by simp only [sumN, sumN_zero]
  | n + 1 => by simp only [sumN]; rw [sumN_swap, ← sumN_add]
theorem sg_xor {a b : Bool} : sg (xor a b) = sg a * sg b := by cases a <;> cases b <;> rfl
theorem sum_bits {x : Nat} : ∀ {n : Nat}, sumN (fun j => sg (x.testBit j)) n = n - 2 * (((List.range n).countP fun j => x.testBit j:Nat):Int)
  | 0 => rfl
  | n + 1 => by
    rw [sumN, sum_bits, List.range_succ, List.countP_append, List.countP_singleton]
    cases x.testBit n <;> simp [sg] <;> omega
theorem count_all {x n : Nat} (h : x < 2 ^ n) : ∀ k, ((List.range (n + k)).countP fun j => x.testBit j) = (List.range n).countP fun j => x.testBit j
  | 0 => rfl
  | k + 1 => by
    have hf : x.testBit (n + k) = false := Nat.testBit_lt_two_pow (Nat.lt_of_lt_of_le h (Nat.pow_le_pow_right (by omega) (by omega)))
    rw [← Nat.add_assoc, List.range_succ, List.countP_append, List.countP_singleton, hf, count_all h k]
    rfl
theorem pop_count {x n : Nat} (hn : n ≤ 16) (h : x < 2 ^ n) : ((List.range n).countP fun j => x.testBit j) = popN x := by
  have := count_all h (16 - n)
  rw [show n + (16 - n) = 16 by omega] at this
  exact this.symm
theorem sum_pop {x n : Nat} (hn : n ≤ 16) (h : x < 2 ^ n) : sumN (fun j => sg (x.testBit j)) n = n - 2 * (popN x:Int) := by rw [sum_bits, pop_count hn h]
theorem pop_le {x n : Nat} (hn : n ≤ 16) (h : x < 2 ^ n) : popN x ≤ n := by
  rw [← pop_count hn h]
  exact Nat.le_trans (List.countP_le_length) (by simp)
theorem rowN_bit {g : Int → Bool} {i : Nat} : ∀ {n : Nat}, (rowN g n).testBit i = (decide (i < n) && g i)
  | 0 => by simp [rowN]
  | n + 1 => by
    rw [rowN]
    by_cases h : g n = true
    · rw [if_pos h, Nat.testBit_or, rowN_bit, Nat.testBit_two_pow]
      by_cases h1 : i < n
      · simp [h1, show i < n + 1 by omega, show n ≠ i by omega]
      · by_cases h2 : i = n
        · subst h2; simp [h]
        · simp [h1, show ¬ i < n + 1 by omega, show n ≠ i by omega]
    · rw [if_neg h, rowN_bit]
      by_cases h1 : i < n
      · simp [h1, show i < n + 1 by omega]
      · by_cases h2 : i = n
        · subst h2; simp [h]
        · simp [h1, show ¬ i < n + 1 by omega]
section
variable {l : List Int} {m : Int}
theorem nx_get {i : Nat} (h : isM l m = true) (hi : i < l.length) : l.getD i 0 = (nx l i:Int) ∧ nx l i < 2 ^ l.length := by
  have := (isM_spec h).2.2 (l.getD i 0) (by rw [gd_at hi]; exact List.getElem_mem hi)
  have h5 : ((2 ^ l.length:Nat):Int) = (2:Int) ^ l.length := by rw [Int.natCast_pow]; rfl
  unfold nx
  omega
theorem len16 (hm : m ≤ 16) (h : isM l m = true) : l.length ≤ 16 ∧ 1 ≤ l.length := by
  obtain ⟨h1, h2, _⟩ := isM_spec h
  omega
theorem pow16 (hm : m ≤ 16) (h : isM l m = true) : 2 ^ l.length ≤ 65536 := pow_le16 (len16 hm h).1
theorem isF_nx {i j : Nat} (h : isM l m = true) (hi : i < l.length) : isF l i j = (nx l i).testBit j := by
  unfold isF bit
  rw [Int.toNat_natCast, (nx_get h hi).1, Int.toNat_natCast, Int.toNat_natCast]
theorem xor_lt {a b n : Nat} (ha : a < 2 ^ n) (hb : b < 2 ^ n) : a ^^^ b < 2 ^ n := Nat.xor_lt_two_pow ha hb
end
end Go.Signs
set_option linter.unusedVariables false
set_option linter.unusedSimpArgs false
namespace Go.Signs
open Go Go.Ab Go.Proofs
theorem all_chk {n : Nat} {Q : Nat → Bool} : (List.range n).all Q = true ↔ ∀ i, 0 ≤ i → i < n → Q i = true := by
  rw [List.all_eq_true]
  exact ⟨fun h i _ hi => h i (List.mem_range.2 hi), fun h i hi => h i (Nat.zero_le _) (List.mem_range.1 hi)⟩
def balQ (l:List Int) (i k:Nat) : Bool := decide (2 * popN (nx l i ^^^ nx l k) = l.length)
theorem in71 {l : List Int} (h : isM l 16 = true) {i : Nat} (hi : i < l.length) : whileO (g71_l0 l (((i:Nat):Int), ())) ((0:Int), ()) = some (cond ((List.range i).all (balQ l i)) (.go ((((i + 1:Nat):Int), ()) : Int × Unit)) (.out ((false, ()) : Bool × Unit))) := by
  have h16 := len16 (by omega) h
  have hp := pow16 (by omega) h
  refine whileO_chk (st := fun k : Nat => ((k:Int), ())) (lo := 0) (hi := i) (Q := balQ l i) (x := Lp.out ((false, ()) : Bool × Unit)) (y := Lp.go ((((i + 1:Nat):Int), ()) : Int × Unit)) (by omega) all_chk (fun k _ hk => ?_) ?_
  · unfold g71_l0
    dsimp only
    have hl : (List.take ((i:Int).toNat) l).length = i := by rw [List.length_take, Int.toNat_natCast]; omega
    have hg : (List.take ((i:Int).toNat) l).getD k 0 = l.getD k 0 := by
      rw [gd_at (by rw [hl]; exact hk), gd_at (by omega), List.getElem_take]
    obtain ⟨a1, a2⟩ := nx_get h hi
    obtain ⟨b1, b2⟩ := nx_get h (i := k) (by omega)
    have hx := xor_lt a2 b2
    rw [hl]
    rw [Int.toNat_natCast (n := k), hg, Int.toNat_natCast (n := i), a1, b1, ixor_nat (by omega) (by omega)]
    rw [cond_t (ilt_iff.2 (by omega)), gd_pos (by omega), gd_pos (nat16 (by omega)), cast1 (by omega)]
    have hpl := pop_le h16.1 hx
    have hc : pop ((nx l i ^^^ nx l k:Nat):Int) = (popN (nx l i ^^^ nx l k):Int) := rfl
    rw [hc, wr_id (by omega)]
    unfold balQ
    by_cases hb : 2 * popN (nx l i ^^^ nx l k) = l.length
    · rw [ieq_iff.2 (by omega), decide_eq_true hb]; rfl
    · rw [ieq_false.2 (by omega), decide_eq_false hb]; rfl
  · unfold g71_l0
    dsimp only
    have hl : (List.take ((i:Int).toNat) l).length = i := by rw [List.length_take, Int.toNat_natCast]; omega
    rw [hl, cond_f (ilt_false.2 (by omega)), cast1 (by omega)]
theorem cond_eta {b : Bool} : (cond b ((true, ()) : Bool × Unit) (false, ())) = (b, ()) := by cases b <;> rfl
theorem goal71 : con71.goal Try.prog (spOf [con61]) g71_sh [] lm30 := by
  have e : (∀ (l:List Int), isM l 16 = true → g71 l = some (balF l, ())) = con71.goal Try.prog (spOf [con61]) g71_sh [] lm30 := by kernel_rfl
  rw [← e]
  intro l h
  have h16 := len16 (by omega) h
  unfold g71
  refine (whileO_chk (st := fun i : Nat => ((i:Int), ())) (lo := 0) (hi := l.length) (b := balF l) (Q := fun i => (List.range i).all (balQ l i)) (x := ((false, ()) : Bool × Unit)) (y := ((true, ()) : Bool × Unit)) (by omega) all_chk (fun i _ hi => ?_) ?_).trans (by rw [cond_eta])
  · simp only
    rw [cond_t (ilt_iff.2 (by omega)), gd_pos (by omega), gd_pos (by omega), in71 h hi]
  · simp only
    rw [cond_f (ilt_false.2 (by omega))]
set_option maxRecDepth 100000 in
theorem ok71 : con71.Ok Try.prog := Con.of_goal mixed (okC ok61 okN) con71 goal71
theorem goal30 : con30.goal Try.prog (spOf [con62, con71]) g30_sh [] lm30 := by
  have e : (∀ (l:List Int), small l → g30 l = some (balX l)) = con30.goal Try.prog (spOf [con62, con71]) g30_sh [] lm30 := by kernel_rfl
  rw [← e]
  intro l hs
  unfold g30 balX
  cases h : isM l 16 <;> simp [hs, gd_true]
set_option maxRecDepth 100000 in
theorem ok30 : con30.Ok Try.prog := Con.of_goal mixed (okC ok62 (okC ok71 okN)) con30 goal30
end Go.Signs
set_option linter.unusedVariables false
set_option linter.unusedSimpArgs false
namespace Go.Signs
open Go Go.Ab Go.Proofs
section
variable {l : List Int} {t : Nat}
end
abbrev Two := Int × Int × Unit
def ent (l:List Int) (i j:Nat) : Int := sg ((nx l i).testBit j)
end Go.Signs
