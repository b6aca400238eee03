/- Colourings: contracts. -/
import Derived.Test.YtiiiojjaphckbaaXK
import Derived.Test.YtiiiojjaphckbaaAT
set_option linter.unusedVariables false
set_option linter.unusedSimpArgs false
namespace Go.Caps
open Go Go.Ab Go.Proofs

/-- Whether the last number is a sum of two of its colour. -/
def sumB (l : List Int) : Bool := (List.range' 1 (l.length / 2)).any fun x => ieq (l.getD (x - 1) 0) (l.getD (l.length - 1) 0) && ieq (l.getD (l.length - x - 1) 0) (l.getD (l.length - 1) 0)
/-- Whether the last number ends a progression of k of its colour. -/
def stepB (k : Nat) (l : List Int) : Bool := (List.range' 1 ((l.length - 1) / (k - 1))).any fun b => (List.range k).all fun i => ieq (l.getD (l.length - 1 - i * b) 0) (l.getD (l.length - 1) 0)
def badK (k : Int) (l : List Int) : Bool := if k = 0 then sumB l else stepB k.toNat l
abbrev Srch := Bool × Int × List Int × Unit
/-- The first colour from x on with which the search goes on. -/
def tryC (g : List Int → Option (List Int)) (bad : List Int → Bool) (l : List Int) : Nat → Int → Option (List Int)
  | 0, _ => none
  | c + 1, x => match bif bad (l ++ [x]) then none else g (l ++ [x]) with
    | some r => some r
    | none => tryC g bad l c (x + 1)
def colS (kk n col : Int) : Nat → List Int → Option (List Int)
  | 0, _ => none
  | k + 1, l => if (l.length : Int) = n then some l else tryC (colS kk n col k) (badK kk) l col.toNat 0
def argsOk (n col : Int) : Bool := decide (1 ≤ n) && decide (n ≤ 40) && decide (1 ≤ col) && decide (col ≤ 3)
def colX (kk n col : Int) : List Int × Int × Unit := match colS kk n col 42 [] with | some l => (l, 0, ()) | none => ([], 4, ())
def schurX (n col : Int) : List Int × Int × Unit := if argsOk n col = true then colX 0 n col else ([], 2, ())
/-! the reference -/
def tryP (g : Int → List Int → Srch) (bad : List Int → Bool) (len : Int) : Nat → Int → List Int → Srch
  | 0, _, a => (true, 0, a, ())
  | c + 1, x, a => if bad ((a.set len.toNat x).take (len.toNat + 1)) = true then tryP g bad len c (x + 1) (a.set len.toNat x)
    else if (g (len + 1) (a.set len.toNat x)).1 = true then tryP g bad len c (x + 1) (g (len + 1) (a.set len.toNat x)).2.2.1
    else g (len + 1) (a.set len.toNat x)
def paintS (kk n col : Int) : Nat → Int → List Int → Srch
  | 0, _, a => (true, 0, a, ())
  | f + 1, len, a => if len = n then (false, len, a, ()) else tryP (paintS kk n col f) (badK kk) len col.toNat 0 a
def paintX (kk n col : Int) : List Int × Int × Unit := if (paintS kk n col 42 0 (List.replicate 40 0)).1 = true then ([], 4, ()) else ((paintS kk n col 42 0 (List.replicate 40 0)).2.2.1.take (paintS kk n col 42 0 (List.replicate 40 0)).2.1.toNat, 0, ())
noncomputable def g4 (x0 x1 : Int) : Option (Bool × Unit) := gd ((!ilt x0 (1 : Int)) = true → (!ilt x0 (1 : Int)) = true) (gd (ilt x0 (1 : Int) = false → (!ilt x0 (1 : Int)) = true) (gd ((!bif ilt x0 (1 : Int) then true else ilt (40 : Int) x0) = true → (!bif ilt x0 (1 : Int) then true else ilt (40 : Int) x0) = true) (gd ((bif ilt x0 (1 : Int) then true else ilt (40 : Int) x0) = false → (!bif ilt x0 (1 : Int) then true else ilt (40 : Int) x0) = true) (gd ((!bif bif ilt x0 (1 : Int) then true else ilt (40 : Int) x0 then true else ilt x1 (1 : Int)) = true → (!bif bif ilt x0 (1 : Int) then true else ilt (40 : Int) x0 then true else ilt x1 (1 : Int)) = true) (gd ((bif bif ilt x0 (1 : Int) then true else ilt (40 : Int) x0 then true else ilt x1 (1 : Int)) = false → (!bif bif ilt x0 (1 : Int) then true else ilt (40 : Int) x0 then true else ilt x1 (1 : Int)) = true) (bif bif bif bif ilt x0 (1 : Int) then true else ilt (40 : Int) x0 then true else ilt x1 (1 : Int) then true else ilt (3 : Int) x1 then gd (ieq (↑(List.length (schurX x0 x1).1) : Int) (0 : Int) = true → ieq (↑(List.length (schurX x0 x1).1) : Int) (0 : Int) = true) (gd (ieq (↑(List.length (schurX x0 x1).1) : Int) (0 : Int) = true → ieq (↑(List.length (schurX x0 x1).1) : Int) (0 : Int) = true) (gd ((bif ieq (↑(List.length (schurX x0 x1).1) : Int) (0 : Int) then ieq (schurX x0 x1).2.1 (2 : Int) else false) = true → (bif ieq (↑(List.length (schurX x0 x1).1) : Int) (0 : Int) then ieq (schurX x0 x1).2.1 (2 : Int) else false) = true) (some ((bif bif ieq (↑(List.length (schurX x0 x1).1) : Int) (0 : Int) then ieq (schurX x0 x1).2.1 (2 : Int) else false then true else false, ()) : Bool × Unit)))) else gd ((1 : Int) ≤ x0 ∧ x0 ≤ (40 : Int) ∧ (1 : Int) ≤ x1 ∧ x1 ≤ (3 : Int) ∧ ((0 : Int) = (0 : Int) ∨ (0 : Int) = (3 : Int) ∨ (0 : Int) = (4 : Int))) (gd (small (schurX x0 x1).1) (gd (small (paintX (0 : Int) x0 x1).1) (gd (eqLf ieq (schurX x0 x1).1 (paintX (0 : Int) x0 x1).1 = true → eqLf ieq (schurX x0 x1).1 (paintX (0 : Int) x0 x1).1 = true ∧ eqLf ieq (schurX x0 x1).1 (paintX (0 : Int) x0 x1).1 = true) (gd (eqLf ieq (schurX x0 x1).1 (paintX (0 : Int) x0 x1).1 = true → eqLf ieq (schurX x0 x1).1 (paintX (0 : Int) x0 x1).1 = true) (gd ((bif eqLf ieq (schurX x0 x1).1 (paintX (0 : Int) x0 x1).1 then ieq (schurX x0 x1).2.1 (paintX (0 : Int) x0 x1).2.1 else false) = true → (bif eqLf ieq (schurX x0 x1).1 (paintX (0 : Int) x0 x1).1 then ieq (schurX x0 x1).2.1 (paintX (0 : Int) x0 x1).2.1 else false) = true) (some ((bif bif eqLf ieq (schurX x0 x1).1 (paintX (0 : Int) x0 x1).1 then ieq (schurX x0 x1).2.1 (paintX (0 : Int) x0 x1).2.1 else false then true else false, ()) : Bool × Unit)))))))))))))
end Go.Caps

set_option linter.unusedVariables false
set_option linter.unusedSimpArgs false
namespace Go.Caps
open Go Go.Ab Go.Proofs

end Go.Caps

set_option linter.unusedVariables false
set_option linter.unusedSimpArgs false
namespace Go.Caps
open Go Go.Ab Go.Proofs

theorem scon_false {P : Program} (c : SCon) (hcall : callable P c.f = true) (h : allD (c.ins.flatMap TV.ts ++ tsB c.ibl) fun env => ∀ p, c.pre env = some p → ¬ allP p) : c.Ok P :=
  ⟨hcall, fun Γ w env p r vs em henv hpre hF hp hargs => absurd hp (allD_elim (K := fun env => ∀ p, c.pre env = some p → ¬ allP p) h henv p hpre)⟩

/-- What a search that grows a slice returns. -/
def SOk (s : Srch) (r : Option (List Int)) (l : List Int) : Prop := s.1 = r.isSome ∧ s.2.1 = ((r.getD l).length : Int) ∧ s.2.2.1.take (r.getD l).length = r.getD l

theorem SOk.le {s : Srch} {r : Option (List Int)} {l : List Int} (h : SOk s r l) : (r.getD l).length ≤ s.2.2.1.length := by
  have := congrArg List.length h.2.2
  rw [List.length_take] at this
  omega

end Go.Caps

set_option linter.unusedVariables false
set_option linter.unusedSimpArgs false
namespace Go.Caps
open Go Go.Ab Go.Proofs

end Go.Caps

set_option linter.unusedVariables false
set_option linter.unusedSimpArgs false
namespace Go.Caps
open Go Go.Ab Go.Proofs

end Go.Caps
