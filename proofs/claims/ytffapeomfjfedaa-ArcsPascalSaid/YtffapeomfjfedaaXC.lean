/- The cross ratio: contracts. -/
import Derived.Test.YtffapeomfjfedaaXB
set_option linter.unusedVariables false
set_option linter.unusedSimpArgs false
namespace Go.Arcs
open Go Go.Ab Go.Proofs

def strF (p a b c : Int) : Bool := ieq (dotC p (crossF p (pt p a) (pt p b)) (pt p c)) 0
def cmb (p : Int) (a b : TripD) (u v : Int) : TripD := ((u * a.1 + v * b.1) % p, (u * a.2.1 + v * b.2.1) % p, (u * a.2.2.1 + v * b.2.2.1) % p, ())
def findI {X : Type} (q : Int → Option X) : Nat → Int → Option X
  | 0, _ => none
  | n + 1, i => match q i with
    | some x => some x
    | none => findI q n (i + 1)
def partsO (p : Int) (a b c : TripD) : Option (Int × Int) := findI (fun u => findI (fun v => if deqT (cmb p a b u v) c = true then some (u, v) else none) p.toNat 0) p.toNat 0
def partsF (p : Int) (a b c : TripD) : Int × Int := (partsO p a b c).getD (0, 0)
noncomputable def ratF (p a b c d : Int) : Int :=
  (partsF p (pt p a) (pt p b) (pt p c)).1 * (partsF p (pt p a) (pt p b) (pt p d)).2 * invF p ((partsF p (pt p a) (pt p b) (pt p c)).2 * (partsF p (pt p a) (pt p b) (pt p d)).1 % p) % p
def okX (p a b c d : Int) : Bool := isPb p && inPt p a && inPt p b && inPt p c && inPt p d && !ieq a b && !ieq a c && !ieq a d && !ieq b c && !ieq b d && !ieq c d && strF p a b c && strF p a b d
noncomputable def crossX (p a b c d : Int) : Int × Int × Unit := if okX p a b c d = true then (ratF p a b c d, 0, ()) else (0, 2, ())
abbrev QuadD := Int × Int × Int × Int × Unit
def allIn (p : Int) (l : QuadD) : Prop := inPt p l.1 = true ∧ inPt p l.2.1 = true ∧ inPt p l.2.2.1 = true ∧ inPt p l.2.2.2.1 = true
def distF (l : QuadD) : Bool := !ieq l.1 l.2.1 && !ieq l.1 l.2.2.1 && !ieq l.2.1 l.2.2.1 && !ieq l.1 l.2.2.2.1 && !ieq l.2.1 l.2.2.2.1 && !ieq l.2.2.1 l.2.2.2.1
def lineF (p : Int) (l : QuadD) : Bool := distF l && onF p l.2.2.1 (joinR p l.1 l.2.1) && onF p l.2.2.2.1 (joinR p l.1 l.2.1)
def ratR (p : Int) (u v s t : Int) : Int := (findI (fun x => if (x * v * s - u * t) % p = 0 then some x else none) p.toNat 0).getD 0
noncomputable def ratL (p : Int) (l : QuadD) : Int := ratR p (partsF p (pt p l.1) (pt p l.2.1) (pt p l.2.2.1)).1 (partsF p (pt p l.1) (pt p l.2.1) (pt p l.2.2.1)).2 (partsF p (pt p l.1) (pt p l.2.1) (pt p l.2.2.2.1)).1 (partsF p (pt p l.1) (pt p l.2.1) (pt p l.2.2.2.1)).2
noncomputable def g5 (x0 : Int) (x1 : Int × Int × Int × Int × Unit) : Option (Bool × Unit) := gd ((0 : Nat) < (4 : Nat)) (gd ((1 : Nat) < (4 : Nat)) (gd ((2 : Nat) < (4 : Nat)) (gd ((3 : Nat) < (4 : Nat)) (gd ((4 : Nat) ≤ (4 : Nat)) (gd (small (x1.1 :: x1.2.1 :: x1.2.2.1 :: x1.2.2.2.1 :: ([] : List Int))) (gd ((!!(isPb x0 && List.all (x1.1 :: x1.2.1 :: x1.2.2.1 :: x1.2.2.2.1 :: ([] : List Int)) (inPt x0))) = true → (4 : Nat) ≤ (4 : Nat)) (gd ((!!(isPb x0 && List.all (x1.1 :: x1.2.1 :: x1.2.2.1 :: x1.2.2.2.1 :: ([] : List Int)) (inPt x0))) = true → (!!(isPb x0 && List.all (x1.1 :: x1.2.1 :: x1.2.2.1 :: x1.2.2.2.1 :: ([] : List Int)) (inPt x0))) = true ∧ (!!(isPb x0 && List.all (x1.1 :: x1.2.1 :: x1.2.2.1 :: x1.2.2.2.1 :: ([] : List Int)) (inPt x0))) = true ∧ isP x0 ∧ allIn x0 ((x1.1, x1.2.1, x1.2.2.1, x1.2.2.2.1, ()) : Int × Int × Int × Int × Unit)) (gd ((!!(isPb x0 && List.all (x1.1 :: x1.2.1 :: x1.2.2.1 :: x1.2.2.2.1 :: ([] : List Int)) (inPt x0))) = true → (!!(isPb x0 && List.all (x1.1 :: x1.2.1 :: x1.2.2.1 :: x1.2.2.2.1 :: ([] : List Int)) (inPt x0))) = true) (gd ((!(isPb x0 && List.all (x1.1 :: x1.2.1 :: x1.2.2.1 :: x1.2.2.2.1 :: ([] : List Int)) (inPt x0))) = false → (!!(isPb x0 && List.all (x1.1 :: x1.2.1 :: x1.2.2.1 :: x1.2.2.2.1 :: ([] : List Int)) (inPt x0))) = true) (bif bif !(isPb x0 && List.all (x1.1 :: x1.2.1 :: x1.2.2.1 :: x1.2.2.2.1 :: ([] : List Int)) (inPt x0)) then true else !lineF x0 ((x1.1, x1.2.1, x1.2.2.1, x1.2.2.2.1, ()) : Int × Int × Int × Int × Unit) then gd (ieq (crossX x0 x1.1 x1.2.1 x1.2.2.1 x1.2.2.2.1).1 (0 : Int) = true → ieq (crossX x0 x1.1 x1.2.1 x1.2.2.1 x1.2.2.2.1).1 (0 : Int) = true) (gd (ieq (crossX x0 x1.1 x1.2.1 x1.2.2.1 x1.2.2.2.1).1 (0 : Int) = true → ieq (crossX x0 x1.1 x1.2.1 x1.2.2.1 x1.2.2.2.1).1 (0 : Int) = true) (gd ((bif ieq (crossX x0 x1.1 x1.2.1 x1.2.2.1 x1.2.2.2.1).1 (0 : Int) then ieq (crossX x0 x1.1 x1.2.1 x1.2.2.1 x1.2.2.2.1).2.1 (2 : Int) else false) = true → (bif ieq (crossX x0 x1.1 x1.2.1 x1.2.2.1 x1.2.2.2.1).1 (0 : Int) then ieq (crossX x0 x1.1 x1.2.1 x1.2.2.1 x1.2.2.2.1).2.1 (2 : Int) else false) = true) (some ((bif bif ieq (crossX x0 x1.1 x1.2.1 x1.2.2.1 x1.2.2.2.1).1 (0 : Int) then ieq (crossX x0 x1.1 x1.2.1 x1.2.2.1 x1.2.2.2.1).2.1 (2 : Int) else false then true else false, ()) : Bool × Unit)))) else gd ((4 : Nat) ≤ (4 : Nat)) (gd (isP x0) (gd (allIn x0 ((x1.1, x1.2.1, x1.2.2.1, x1.2.2.2.1, ()) : Int × Int × Int × Int × Unit)) (gd (ieq (crossX x0 x1.1 x1.2.1 x1.2.2.1 x1.2.2.2.1).1 (ratL x0 ((x1.1, x1.2.1, x1.2.2.1, x1.2.2.2.1, ()) : Int × Int × Int × Int × Unit)) = true → ieq (crossX x0 x1.1 x1.2.1 x1.2.2.1 x1.2.2.2.1).1 (ratL x0 ((x1.1, x1.2.1, x1.2.2.1, x1.2.2.2.1, ()) : Int × Int × Int × Int × Unit)) = true) (gd (ieq (crossX x0 x1.1 x1.2.1 x1.2.2.1 x1.2.2.2.1).1 (ratL x0 ((x1.1, x1.2.1, x1.2.2.1, x1.2.2.2.1, ()) : Int × Int × Int × Int × Unit)) = true → ieq (crossX x0 x1.1 x1.2.1 x1.2.2.1 x1.2.2.2.1).1 (ratL x0 ((x1.1, x1.2.1, x1.2.2.1, x1.2.2.2.1, ()) : Int × Int × Int × Int × Unit)) = true) (gd ((bif ieq (crossX x0 x1.1 x1.2.1 x1.2.2.1 x1.2.2.2.1).1 (ratL x0 ((x1.1, x1.2.1, x1.2.2.1, x1.2.2.2.1, ()) : Int × Int × Int × Int × Unit)) then ieq (crossX x0 x1.1 x1.2.1 x1.2.2.1 x1.2.2.2.1).2.1 (0 : Int) else false) = true → (bif ieq (crossX x0 x1.1 x1.2.1 x1.2.2.1 x1.2.2.2.1).1 (ratL x0 ((x1.1, x1.2.1, x1.2.2.1, x1.2.2.2.1, ()) : Int × Int × Int × Int × Unit)) then ieq (crossX x0 x1.1 x1.2.1 x1.2.2.1 x1.2.2.2.1).2.1 (0 : Int) else false) = true) (some ((bif bif ieq (crossX x0 x1.1 x1.2.1 x1.2.2.1 x1.2.2.2.1).1 (ratL x0 ((x1.1, x1.2.1, x1.2.2.1, x1.2.2.2.1, ()) : Int × Int × Int × Int × Unit)) then ieq (crossX x0 x1.1 x1.2.1 x1.2.2.1 x1.2.2.2.1).2.1 (0 : Int) else false then true else false, ()) : Bool × Unit)))))))))))))))))
end Go.Arcs

set_option linter.unusedVariables false
set_option linter.unusedSimpArgs false
namespace Go.Arcs
open Go Go.Ab Go.Proofs

theorem w1 : wr .i64 1 = 1 := by decide
theorem w2 : wr .i64 2 = 2 := by decide
def pick {X Y : Type} (o : Option Y) (f : Y → X) (e : X) : X := match o with
  | some r => f r
  | none => e

end Go.Arcs

set_option linter.unusedVariables false
set_option linter.unusedSimpArgs false
namespace Go.Arcs
open Go Go.Ab Go.Proofs

end Go.Arcs

set_option linter.unusedVariables false
set_option linter.unusedSimpArgs false
namespace Go.Arcs
open Go Go.Ab Go.Proofs

end Go.Arcs

set_option linter.unusedVariables false
set_option linter.unusedSimpArgs false
namespace Go.Arcs
open Go Go.Ab Go.Proofs

theorem inv_tab : ∀ p ∈ ([2, 3, 5, 7] : List Int), ∀ a ∈ List.range p.toNat, (ieq a 0 || ieq (invF p a * a % p) 1) = true := by decide +kernel
end Go.Arcs

set_option linter.unusedVariables false
set_option linter.unusedSimpArgs false
namespace Go.Arcs
open Go Go.Ab Go.Proofs

theorem rng_mem {p a : Int} (h : 0 ≤ a ∧ a < p) : a.toNat ∈ List.range p.toNat := List.mem_range.2 (by omega)

theorem inv_ex {p n : Int} (hp : isP p) (hn : n % p ≠ 0) : ∃ w, p ∣ w * n - 1 := by
  have hb := isP_bd hp
  have h0 := Int.emod_nonneg n (show p ≠ 0 by omega)
  have h1 := Int.emod_lt_of_pos n (show 0 < p by omega)
  have h := inv_tab p (isP_mem hp) _ (rng_mem ⟨h0, h1⟩)
  rw [Int.toNat_of_nonneg h0, Bool.or_eq_true, ieq_iff, ieq_iff] at h
  rcases h with h | h
  · exact absurd h hn
  · refine ⟨invF p (n % p), ?_⟩
    rw [Int.mul_emod, Int.emod_emod_of_dvd n (Int.dvd_refl p), ← Int.mul_emod] at h
    have : (invF p (n % p) * n - 1) % p = 0 := by
      rw [← Int.emod_eq_emod_iff_emod_sub_eq_zero, h]
      exact (Int.emod_eq_of_lt (by omega) (by omega)).symm
    exact Int.dvd_of_emod_eq_zero this

end Go.Arcs

set_option linter.unusedVariables false
set_option linter.unusedSimpArgs false
namespace Go.Arcs
open Go Go.Ab Go.Proofs

end Go.Arcs

set_option linter.unusedVariables false
set_option linter.unusedSimpArgs false
namespace Go.Arcs
open Go Go.Ab Go.Proofs

end Go.Arcs
