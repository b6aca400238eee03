/- Find and Four: contracts. -/
import Derived.Test.YtibpopddoggnkaaXU
set_option linter.unusedVariables false
set_option linter.unusedSimpArgs false
namespace Go.Signs
open Go Go.Ab Go.Proofs

def ofL (q : List Int) : QtD := (q.getD 0 0, (q.getD 1 0, q.getD 2 0, q.getD 3 0, q.getD 4 0, ()), ())
def tryF (g : List Int → Bool × List Int) (k : Nat) : Nat → Int → List Int → Bool × List Int
  | 0, s, q => (false, q.set (k + 1) 0)
  | c + 1, s, q => if (g (q.set (k + 1) s)).1 = true then (true, (g (q.set (k + 1) s)).2) else tryF g k c (s + 1) (g (q.set (k + 1) s)).2
def growF (m : Int) : Nat → Int → List Int → Bool × List Int
  | 0, k, q => (false, q)
  | n + 1, k, q => if k = 4 then (valQ (ofL q) && goodF (ofL q), q) else tryF (growF m n (k + 1)) k.toNat (2 ^ m.toNat) 0 q
abbrev Q82 : List TB := [.cells [.slf 3 4], .arr I64 false, .cells [.fn 82 (.cons (.ref 0 1 0 0) (.cons (.ref 1 1 0 0) (.cons (.ref 2 1 0 0) .nil)))], .arr A4 true]
abbrev R82 : List TB := [.cells [.slf 4 4], .arr I64 false, .cells [.fn 82 (.cons (.ref 0 1 0 0) (.cons (.ref 1 1 0 0) (.cons (.ref 2 1 0 0) .nil)))], .dead, .arr A4 true]
def four4 (l : List Int) : A4D := (l.getD 0 0, l.getD 1 0, l.getD 2 0, l.getD 3 0, ())
def loop4 (g : Int → Int → List Int → List A4D → List Int × List A4D) (k : Nat) (left : Int) : Nat → Int → List Int → List A4D → List Int × List A4D
  | 0, x, l, out => (l, out)
  | c + 1, x, l, out => if x * x ≤ left then loop4 g k left c (x + 2) (g x (left - x * x) (l.set k x) out).1 (g x (left - x * x) (l.set k x) out).2 else (l, out)
def grow4 : Nat → Int → Int → Int → List Int → List A4D → List Int × List A4D
  | 0, k, least, left, l, out => (l, out)
  | n + 1, k, least, left, l, out => if k = 4 then (l, if left = 0 then out ++ [four4 l] else out) else loop4 (grow4 n (k + 1)) k.toNat left 21 least l out
def pre4 (n : Nat) (k least left : Int) (l : List Int) (out : List A4D) : Prop := 0 ≤ k ∧ k ≤ 4 ∧ 4 - k < n ∧ 1 ≤ least ∧ least ≤ 50 ∧ 0 ≤ left ∧ left ≤ 400 ∧ l.length = 4 ∧ out.length + 21 ^ (4 - k).toNat ≤ 194481
noncomputable def con82 (n : Nat) : SCon := mkS 82 [.v I64, .v I64, .v I64, .ref 0 1 0 0, .ref 1 1 0 0, .ref 2 1 0 0] Q82 [] R82 (fun (k least left : Int) (l : List Int) (out : List A4D) => [pre4 n k least left l out]) (fun (k least left : Int) (l : List Int) (out : List A4D) => ((grow4 n k least left l out).1, (grow4 n k least left l out).2, ()))
noncomputable def g82 (n : Nat) (x0 x1 x2 : Int) (x3 : List Int) (x4 : List (Int × Int × Int × Int × Unit)) : Option (List Int × List (Int × Int × Int × Int × Unit) × Unit) := bif ieq x0 (4 : Int) then bif ieq x2 (0 : Int) then gd ((4 : Nat) ≤ List.length x3) (gd (List.length x4 ≤ List.length x4) (gd ((List.length x4 + (1 : Nat)) * (32 : Nat) ≤ (1099511627776 : Nat)) (gd (List.length x4 + (1 : Nat) = List.length (List.take (List.length x4) x4 ++ ((List.getD x3 (0 : Nat) (0 : Int), List.getD x3 (1 : Nat) (0 : Int), List.getD x3 (2 : Nat) (0 : Int), List.getD x3 (3 : Nat) (0 : Int), ()) : Int × Int × Int × Int × Unit) :: ([] : List (Int × Int × Int × Int × Unit)))) (some ((x3, List.take (List.length x4) x4 ++ ((List.getD x3 (0 : Nat) (0 : Int), List.getD x3 (1 : Nat) (0 : Int), List.getD x3 (2 : Nat) (0 : Int), List.getD x3 (3 : Nat) (0 : Int), ()) : Int × Int × Int × Int × Unit) :: ([] : List (Int × Int × Int × Int × Unit)), ()) : List Int × List (Int × Int × Int × Int × Unit) × Unit))))) else gd (List.length x4 = List.length x4) (some ((x3, x4, ()) : List Int × List (Int × Int × Int × Int × Unit) × Unit)) else gd (List.length x4 = List.length x4) (whileO (fun (d6 : Int × List Int × List (Int × Int × Int × Int × Unit) × Unit) => bif ile (wr IntKind.i64 (d6.1 * d6.1)) x2 then gd ((0 : Int) ≤ x0 ∧ x0 < (4 : Int)) (gd ((0 : Nat) + Int.toNat x0 * (1 : Nat) < List.length d6.2.1) (gd (List.length d6.2.2.1 = List.length d6.2.2.1) (gd (pre4 n (wr IntKind.i64 (x0 + (1 : Int))) d6.1 (wr IntKind.i64 (x2 - wr IntKind.i64 (d6.1 * d6.1))) (List.set d6.2.1 ((0 : Nat) + Int.toNat x0 * (1 : Nat)) d6.1) d6.2.2.1) (gd (List.length (grow4 n (wr IntKind.i64 (x0 + (1 : Int))) d6.1 (wr IntKind.i64 (x2 - wr IntKind.i64 (d6.1 * d6.1))) (List.set d6.2.1 ((0 : Nat) + Int.toNat x0 * (1 : Nat)) d6.1) d6.2.2.1).2 = List.length (grow4 n (wr IntKind.i64 (x0 + (1 : Int))) d6.1 (wr IntKind.i64 (x2 - wr IntKind.i64 (d6.1 * d6.1))) (List.set d6.2.1 ((0 : Nat) + Int.toNat x0 * (1 : Nat)) d6.1) d6.2.2.1).2) (some (Lp.go ((wr IntKind.i64 (d6.1 + (2 : Int)), (grow4 n (wr IntKind.i64 (x0 + (1 : Int))) d6.1 (wr IntKind.i64 (x2 - wr IntKind.i64 (d6.1 * d6.1))) (List.set d6.2.1 ((0 : Nat) + Int.toNat x0 * (1 : Nat)) d6.1) d6.2.2.1).1, (grow4 n (wr IntKind.i64 (x0 + (1 : Int))) d6.1 (wr IntKind.i64 (x2 - wr IntKind.i64 (d6.1 * d6.1))) (List.set d6.2.1 ((0 : Nat) + Int.toNat x0 * (1 : Nat)) d6.1) d6.2.2.1).2, ()) : Int × List Int × List (Int × Int × Int × Int × Unit) × Unit))))))) else gd (List.length d6.2.2.1 = List.length d6.2.2.1) (some (Lp.out ((d6.2.1, d6.2.2.1, ()) : List Int × List (Int × Int × Int × Int × Unit) × Unit)))) ((x1, x3, x4, ()) : Int × List Int × List (Int × Int × Int × Int × Unit) × Unit))
noncomputable def g82_sh : List LSh := LSh.mk3 (((4, TV.ref (1) (1 : Nat) (0 : Nat) (0 : Nat)) : Nat × TV) :: ((5, TV.ref (2) (1 : Nat) (0 : Nat) (0 : Nat)) : Nat × TV) :: ((9, TV.v (Ty.int IntKind.i64)) : Nat × TV) :: ([] : List (Nat × TV))) (TB.cells (TV.slf (4) (4) :: ([] : List TV)) :: TB.arr (Ty.int IntKind.i64) false :: TB.cells (TV.fn (82) (TV.cons (TV.ref (0) (1 : Nat) (0 : Nat) (0 : Nat)) (TV.cons (TV.ref (1) (1 : Nat) (0 : Nat) (0 : Nat)) (TV.cons (TV.ref (2) (1 : Nat) (0 : Nat) (0 : Nat)) TV.nil))) :: ([] : List TV)) :: TB.dead :: TB.arr (Ty.prod (Ty.int IntKind.i64) (Ty.prod (Ty.int IntKind.i64) (Ty.prod (Ty.int IntKind.i64) (Ty.prod (Ty.int IntKind.i64) Ty.unit)))) true :: ([] : List TB)) (4) :: ([] : List LSh)
def fourF (n : Int) : List A4D × Int × Unit := if 1 ≤ n ∧ n ≤ 100 then ((grow4 5 0 1 (4 * n) [0, 0, 0, 0] []).2, 0, ()) else ([], 2, ())
noncomputable def con47 : Con := mkC 47 [.d I64] [.slice A4, I64] (fun (n : Int) => []) (fun (n : Int) => fourF n)
noncomputable def g47 (x0 : Int) : Option (List (Int × Int × Int × Int × Unit) × Int × Unit) := gd ((!ilt x0 (1 : Int)) = true → (!ilt x0 (1 : Int)) = true) (gd (ilt x0 (1 : Int) = false → (!ilt x0 (1 : Int)) = true) (bif bif ilt x0 (1 : Int) then true else ilt (100 : Int) x0 then some ((([] : List (Int × Int × Int × Int × Unit)), (2 : Int), ()) : List (Int × Int × Int × Int × Unit) × Int × Unit) else gd ((0 : Nat) = (0 : Nat)) (gd (pre4 (5 : Nat) (0 : Int) (1 : Int) (wr IntKind.i64 ((4 : Int) * x0)) ((0 : Int) :: (0 : Int) :: (0 : Int) :: (0 : Int) :: ([] : List Int)) ([] : List (Int × Int × Int × Int × Unit))) (gd ((0 : Nat) + List.length (grow4 (5 : Nat) (0 : Int) (1 : Int) (wr IntKind.i64 ((4 : Int) * x0)) ((0 : Int) :: (0 : Int) :: (0 : Int) :: (0 : Int) :: ([] : List Int)) ([] : List (Int × Int × Int × Int × Unit))).2 ≤ List.length (grow4 (5 : Nat) (0 : Int) (1 : Int) (wr IntKind.i64 ((4 : Int) * x0)) ((0 : Int) :: (0 : Int) :: (0 : Int) :: (0 : Int) :: ([] : List Int)) ([] : List (Int × Int × Int × Int × Unit))).2) (some ((List.take (List.length (grow4 (5 : Nat) (0 : Int) (1 : Int) (wr IntKind.i64 ((4 : Int) * x0)) ((0 : Int) :: (0 : Int) :: (0 : Int) :: (0 : Int) :: ([] : List Int)) ([] : List (Int × Int × Int × Int × Unit))).2) (List.drop (0 : Nat) (grow4 (5 : Nat) (0 : Int) (1 : Int) (wr IntKind.i64 ((4 : Int) * x0)) ((0 : Int) :: (0 : Int) :: (0 : Int) :: (0 : Int) :: ([] : List Int)) ([] : List (Int × Int × Int × Int × Unit))).2), (0 : Int), ()) : List (Int × Int × Int × Int × Unit) × Int × Unit))))))
noncomputable def g47_sh : List LSh := ([] : List LSh)

end Go.Signs

set_option linter.unusedVariables false
set_option linter.unusedSimpArgs false
namespace Go.Signs
open Go Go.Ab Go.Proofs

theorem scon_false {P : Program} (c : SCon) (hcall : callable P c.f = true) (h : allD (c.ins.flatMap TV.ts ++ tsB c.ibl) fun env => ∀ p, c.pre env = some p → ¬ allP p) : c.Ok P :=
  ⟨hcall, fun Γ w env p r vs em henv hpre hF hp hargs => absurd hp (allD_elim (K := fun env => ∀ p, c.pre env = some p → ¬ allP p) h henv p hpre)⟩

section
variable {m : Int}
end
end Go.Signs

set_option linter.unusedVariables false
set_option linter.unusedSimpArgs false
namespace Go.Signs
open Go Go.Ab Go.Proofs

abbrev G4 := Int → Int → List Int → List A4D → List Int × List A4D
theorem loop4_inv {g : G4} {k : Nat} {left : Int} {B : Nat} (hg : ∀ x r l out, (g x r l out).1.length = l.length ∧ (g x r l out).2.length ≤ out.length + B) : ∀ (c : Nat) (x : Int) (l : List Int) (out : List A4D),
    (loop4 g k left c x l out).1.length = l.length ∧ (loop4 g k left c x l out).2.length ≤ out.length + c * B
  | 0, x, l, out => by simp [loop4]
  | c + 1, x, l, out => by
    simp only [loop4]
    split
    · obtain ⟨h1, h2⟩ := hg x (left - x * x) (l.set k x) out
      obtain ⟨i1, i2⟩ := loop4_inv (k := k) (left := left) hg c (x + 2) (g x (left - x * x) (l.set k x) out).1 (g x (left - x * x) (l.set k x) out).2
      rw [List.length_set] at h1
      refine ⟨i1.trans h1, ?_⟩
      rw [Nat.add_mul]
      omega
    · simp only [true_and]
      omega
theorem grow4_inv : ∀ (n : Nat) (k least left : Int) (l : List Int) (out : List A4D), (grow4 n k least left l out).1.length = l.length ∧ (0 ≤ k → k ≤ 4 → (grow4 n k least left l out).2.length ≤ out.length + 21 ^ (4 - k).toNat)
  | 0, k, least, left, l, out => by simp [grow4]
  | n + 1, k, least, left, l, out => by
    simp only [grow4]
    split
    · rename_i h
      subst h
      simp only [true_and]
      intro _ _
      split <;> simp
    · rename_i h
      have h1 : ∀ c x l out, (loop4 (grow4 n (k + 1)) k.toNat left c x l out).1.length = l.length := by
        intro c
        induction c with
        | zero => intro x l out; rfl
        | succ c ih =>
          intro x l out
          simp only [loop4]
          split
          · rw [ih, (grow4_inv n _ _ _ _ _).1, List.length_set]
          · rfl
      refine ⟨h1 _ _ _ _, fun h0 h4 => ?_⟩
      have := (loop4_inv (g := grow4 n (k + 1)) (k := k.toNat) (left := left) (B := 21 ^ (4 - (k + 1)).toNat) (fun x r l out => ⟨(grow4_inv n _ _ _ _ _).1, (grow4_inv n _ _ _ _ _).2 (by omega) (by omega)⟩) 21 least l out).2
      rw [show (4 - k).toNat = (4 - (k + 1)).toNat + 1 by omega, Nat.pow_succ, Nat.mul_comm _ 21]
      exact this

theorem loop4_pos {g : G4} {k : Nat} {left : Int} {c : Nat} {x : Int} {l : List Int} {out : List A4D} (h : x * x ≤ left) : loop4 g k left (c + 1) x l out = loop4 g k left c (x + 2) (g x (left - x * x) (l.set k x) out).1 (g x (left - x * x) (l.set k x) out).2 := by
  simp only [loop4, if_pos h]
theorem loop4_neg {g : G4} {k : Nat} {left : Int} {c : Nat} {x : Int} {l : List Int} {out : List A4D} (h : ¬ x * x ≤ left) : loop4 g k left (c + 1) x l out = (l, out) := by
  simp only [loop4, if_neg h]
theorem grow4_ne {n : Nat} {k least left : Int} {l : List Int} {out : List A4D} (h : k ≠ 4) : grow4 (n + 1) k least left l out = loop4 (grow4 n (k + 1)) k.toNat left 21 least l out := by
  simp only [grow4, if_neg h]

theorem ok82_0 : (con82 0).Ok Try.prog := scon_false _ (by kernel_rfl) (by
  have e : (∀ (k least left : Int) (l : List Int) (out : List A4D) (p : List Prop), some [pre4 0 k least left l out] = some p → ¬ allP p) = (allD ((con82 0).ins.flatMap TV.ts ++ tsB (con82 0).ibl) fun env => ∀ p, (con82 0).pre env = some p → ¬ allP p) := by kernel_rfl
  rw [← e]
  intro k least left l out p hp hq
  cases hp
  have := (Ab.allP_one.1 hq)
  unfold pre4 at this
  omega)

theorem goal82 (n : Nat) : (con82 (n + 1)).goal Try.prog (spS [con82 n] []) g82_sh [] lm30 := by
  have e : (∀ (k least left : Int) (l : List Int) (out : List A4D), pre4 (n + 1) k least left l out → g82 n k least left l out = some ((grow4 (n + 1) k least left l out).1, (grow4 (n + 1) k least left l out).2, ())) = (con82 (n + 1)).goal Try.prog (spS [con82 n] []) g82_sh [] lm30 := by kernel_rfl
  rw [← e]
  rintro k least left l out ⟨h0, h4, hn, hl1, hl2, hf0, hf4, hl, ho⟩
  unfold g82
  by_cases hk : k = 4
  · subst hk
    have ho' : out.length + 1 ≤ 194481 := ho
    rw [cond_t (show ieq (4 : Int) 4 = true by decide)]
    simp only [growF, grow4, if_true]
    by_cases hz : left = 0
    · rw [cond_t (by simp [ieq_d, hz]), gd_pos (by omega), gd_pos (by omega), gd_pos (by omega), gd_pos (by simp)]
      rw [if_pos hz, List.take_length]
      rfl
    · rw [cond_f (by simp [ieq_d, hz]), gd_true, if_neg hz]
  · rw [cond_f (by simp [ieq_d, hk]), gd_pos rfl, grow4_ne hk]
    have hw : wr .i64 (k + 1) = k + 1 := wr_id (by omega)
    have hpow : 21 ^ (4 - k).toNat = 21 * 21 ^ (4 - (k + 1)).toNat := by rw [show (4 - k).toNat = (4 - (k + 1)).toNat + 1 by omega, Nat.pow_succ, Nat.mul_comm _ 21]
    rw [hpow] at ho
    generalize hB : 21 ^ (4 - (k + 1)).toNat = B at ho
    have hgi := fun x r l out => grow4_inv n (k + 1) x r l out
    have key : ∀ (c : Nat) (x : Int) (l : List Int) (out : List A4D), 43 - 2 * c ≤ x → x ≤ 60 → 1 ≤ x → l.length = 4 → out.length + c * B ≤ 194481 → whileO (fun (d6 : Int × List Int × List A4D × Unit) => bif ile (wr .i64 (d6.1 * d6.1)) left then gd ((0 : Int) ≤ k ∧ k < (4 : Int)) (gd ((0 : Nat) + Int.toNat k * (1 : Nat) < List.length d6.2.1) (gd (List.length d6.2.2.1 = List.length d6.2.2.1) (gd (pre4 n (wr .i64 (k + (1 : Int))) d6.1 (wr .i64 (left - wr .i64 (d6.1 * d6.1))) (List.set d6.2.1 ((0 : Nat) + Int.toNat k * (1 : Nat)) d6.1) d6.2.2.1) (gd (List.length (grow4 n (wr .i64 (k + (1 : Int))) d6.1 (wr .i64 (left - wr .i64 (d6.1 * d6.1))) (List.set d6.2.1 ((0 : Nat) + Int.toNat k * (1 : Nat)) d6.1) d6.2.2.1).2 = List.length (grow4 n (wr .i64 (k + (1 : Int))) d6.1 (wr .i64 (left - wr .i64 (d6.1 * d6.1))) (List.set d6.2.1 ((0 : Nat) + Int.toNat k * (1 : Nat)) d6.1) d6.2.2.1).2) (some (Lp.go ((wr .i64 (d6.1 + (2 : Int)), (grow4 n (wr .i64 (k + (1 : Int))) d6.1 (wr .i64 (left - wr .i64 (d6.1 * d6.1))) (List.set d6.2.1 ((0 : Nat) + Int.toNat k * (1 : Nat)) d6.1) d6.2.2.1).1, (grow4 n (wr .i64 (k + (1 : Int))) d6.1 (wr .i64 (left - wr .i64 (d6.1 * d6.1))) (List.set d6.2.1 ((0 : Nat) + Int.toNat k * (1 : Nat)) d6.1) d6.2.2.1).2, ()) : Int × List Int × List A4D × Unit))))))) else gd (List.length d6.2.2.1 = List.length d6.2.2.1) (some (Lp.out ((d6.2.1, d6.2.2.1, ()) : List Int × List A4D × Unit)))) ((x, l, out, ()) : Int × List Int × List A4D × Unit) = some ((loop4 (grow4 n (k + 1)) k.toNat left c x l out).1, (loop4 (grow4 n (k + 1)) k.toNat left c x l out).2, ()) := by
      intro c
      induction c with
      | zero =>
        intro x l out hx hx6 hx1 hl ho
        have hxx : 43 * 43 ≤ x * x := Int.mul_le_mul (by omega) (by omega) (by omega) (by omega)
        have hxx2 : x * x ≤ 60 * 60 := Int.mul_le_mul (by omega) (by omega) (by omega) (by omega)
        refine whileO_out ?_
        have : ile (wr .i64 (x * x)) left = false := by rw [wr_id (by omega)]; simp [ile]; omega
        simp only [this, cond_f, gd_pos, loop4]
      | succ c ih =>
        intro x l out hx hx6 hx1 hl ho
        have hxx2 : x * x ≤ 60 * 60 := Int.mul_le_mul (by omega) (by omega) (by omega) (by omega)
        have hxx1 : 1 * 1 ≤ x * x := Int.mul_le_mul (by omega) (by omega) (by omega) (by omega)
        have hq : wr .i64 (x * x) = x * x := wr_id (by omega)
        by_cases hc : x * x ≤ left
        · have hx20 : x ≤ 20 := by
            rcases Int.lt_or_le 20 x with h | h
            · have : 21 * 21 ≤ x * x := Int.mul_le_mul (by omega) (by omega) (by omega) (by omega)
              omega
            · exact h
          have hi := hgi x (left - x * x) (l.set k.toNat x) out
          rw [hB, List.length_set] at hi
          have hi2 := hi.2 (by omega) (by omega)
          rw [Nat.add_mul] at ho
          have hp : pre4 n (k + 1) x (left - x * x) (l.set k.toNat x) out := ⟨by omega, by omega, by omega, by omega, by omega, by omega, by omega, by simp [hl], by rw [hB]; omega⟩
          rw [loop4_pos hc]
          refine (whileO_go (s' := (x + 2, (grow4 n (k + 1) x (left - x * x) (l.set k.toNat x) out).1, (grow4 n (k + 1) x (left - x * x) (l.set k.toNat x) out).2, ())) ?_).trans ?_
          · have hw2 : wr .i64 (left - x * x) = left - x * x := wr_id (by omega)
            have hw3 : wr .i64 (x + 2) = x + 2 := wr_id (by omega)
            have h1 : ile (x * x) left = true := by simp [ile]; omega
            simp only [hq, h1, cond_t, gd_pos (show (0 : Int) ≤ k ∧ k < 4 by omega), hw, Nat.mul_one, Nat.zero_add, gd_pos (show k.toNat < l.length by omega), gd_pos, hw2, gd_pos hp, hw3]
          · have hlen : (grow4 n (k + 1) x (left - x * x) (l.set k.toNat x) out).2.length + c * B ≤ 194481 := by omega
            exact ih (x + 2) _ _ (by omega) (by omega) (by omega) (by rw [hi.1, hl]) hlen
        · rw [loop4_neg hc]
          refine whileO_out ?_
          have h1 : ile (x * x) left = false := by simp [ile]; omega
          simp only [hq, h1, cond_f, gd_pos]
    exact key 21 least l out (by omega) (by omega) hl1 hl ho
set_option maxRecDepth 100000 in
theorem ok82 : ∀ n, (con82 n).Ok Try.prog
  | 0 => ok82_0
  | n + 1 => SCon.of_goal mixed okN (okS (ok82 n) okS0) (con82 (n + 1)) (goal82 n)
end Go.Signs

set_option linter.unusedVariables false
set_option linter.unusedSimpArgs false
namespace Go.Signs
open Go Go.Ab Go.Proofs

section
variable {m : Int}
end
end Go.Signs

set_option linter.unusedVariables false
set_option linter.unusedSimpArgs false
namespace Go.Signs
open Go Go.Ab Go.Proofs

section
variable {f : Int → List A4D → List A4D}
end

section
variable {n : Int}
end
end Go.Signs

set_option linter.unusedVariables false
set_option linter.unusedSimpArgs false
namespace Go.Signs
open Go Go.Ab Go.Proofs

end Go.Signs

set_option linter.unusedVariables false
set_option linter.unusedSimpArgs false
namespace Go.Signs
open Go Go.Ab Go.Proofs

theorem goal47 : con47.goal Try.prog (spS [con82 5] []) g47_sh [] lm30 := by
  have e : (∀ (n : Int), g47 n = some (fourF n)) = con47.goal Try.prog (spS [con82 5] []) g47_sh [] lm30 := by kernel_rfl
  rw [← e]
  intro n
  have key : (bif ilt n 1 then true else ilt 100 n) = !decide (1 ≤ n ∧ n ≤ 100) := by
    rw [ilt_d, ilt_d]
    by_cases h1 : n < 1 <;> by_cases h2 : 100 < n <;> simp [h1, h2] <;> omega
  unfold g47 fourF
  by_cases h : 1 ≤ n ∧ n ≤ 100
  · rw [key, if_pos h, wr_id (n := 4 * n) (by omega)]
    simp only [h, decide_true, Bool.not_true, cond_false, gd_true]
    have hp : pre4 5 0 1 (4 * n) [0, 0, 0, 0] [] := ⟨by omega, by omega, by omega, by omega, by omega, by omega, by omega, rfl, by decide⟩
    have h1 := h.1
    have h2 := h.2
    have b1 : ilt n 1 = false := by rw [ilt_d]; simp; omega
    have b2 : ilt 100 n = false := by rw [ilt_d]; simp; omega
    simp [hp, gd_true, b1, b2, h1, h2]
  · rw [key, if_neg h]
    have b : decide (1 ≤ n ∧ n ≤ 100) = false := decide_eq_false h
    rw [b]
    have b1 : ilt n 1 = false → ilt 100 n = true := fun h1 => by rw [ilt_d] at h1 ⊢; simp at h1 ⊢; omega
    simp [gd_true]
set_option maxRecDepth 100000 in
theorem ok47 : con47.Ok Try.prog := Con.of_goalS mixed okN (okS (ok82 5) okS0) con47 goal47

/-! ### The reference of Four -/
section
variable {n : Int}
end
end Go.Signs

set_option linter.unusedVariables false
set_option linter.unusedSimpArgs false
namespace Go.Signs
open Go Go.Ab Go.Proofs

section
variable {m : Int}
end
end Go.Signs

set_option linter.unusedVariables false
set_option linter.unusedSimpArgs false
namespace Go.Signs
open Go Go.Ab Go.Proofs

end Go.Signs
