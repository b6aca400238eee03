/- The cross ratio: the reference's Line. -/
import Derived.Test.YtffapeomfjfedaaC3
set_option linter.unusedVariables false
set_option linter.unusedSimpArgs false
namespace Go.Arcs
open Go Go.Ab Go.Proofs

def eqJ (x : Int) (L : List Int) (j : Int) : Option Unit := if ieq x (L.getD j.toNat 0) = true then some () else none
def eqI (x : QuadD) (L : List Int) (i : Int) : Option Unit := findI (eqJ (@id Int (arrGet 4 I64 x i.toNat)) L) i.toNat 0

theorem in28 {x : QuadD} {L : List Int} (hl : L.length = 4) {i : Int} (hi : 0 ≤ i ∧ i < 4) :
    whileO (g28_l0 x (i, L, ())) (((Int.toNat i : Nat) : Int), 0, L, ()) = some (pick (eqI x L i) (fun _ => Lp.out (false, ())) (Lp.go (i + 1, L, ()))) := by
  have hi' : ((Int.toNat i : Nat) : Int) = i := by omega
  refine find_loop (p := i) (fun j => ((((Int.toNat i : Nat) : Int), j, L, ()) : Int × Int × List Int × Unit)) (eqJ (@id Int (arrGet 4 I64 x i.toNat)) L) (fun _ => Lp.out ((false, ()) : Bool × Unit)) (Lp.go ((i + 1, L, ()) : Int × List Int × Unit)) hi.1 ?_ ?_
  · intro j h0 h1
    have wj : wr .i64 (j + 1) = j + 1 := wr_id (by omega)
    have b1 : j < ((Int.toNat i : Nat) : Int) := by omega
    unfold g28_l0
    simp only [Int.toNat_natCast]
    rw [cond_t (ilt_iff.2 b1), gd_pos (by omega), gd_pos (by omega), wj, Nat.zero_add]
    show (bif ieq (@id Int (arrGet 4 I64 x i.toNat)) (L.getD j.toNat 0) then some (Lp.out (Lp.out (false, ()))) else some (Lp.go (((Int.toNat i : Nat) : Int), j + 1, L, ()))) = some (pick (eqJ (@id Int (arrGet 4 I64 x i.toNat)) L j) _ _)
    unfold eqJ
    cases ieq (@id Int (arrGet 4 I64 x i.toNat)) (L.getD j.toNat 0) <;> rfl
  · have wi : wr .i64 (i + 1) = i + 1 := wr_id (by omega)
    have b1 : ((Int.toNat i : Nat) : Int) ≤ i := by omega
    unfold g28_l0
    simp only
    rw [cond_f (ilt_false.2 b1), wi]

theorem goal28 : con28.goal Try.prog (spOf [con23, con32]) g28_sh [] lm30 := by
  have e : (∀ (p : Int) (l : QuadD), isP p → allIn p l → g28 p l = some (lineF p l, ())) = con28.goal Try.prog (spOf [con23, con32]) g28_sh [] lm30 := by kernel_rfl
  rw [← e]
  intro p l hp hl
  obtain ⟨a, b, c, d, u⟩ := l
  cases u
  obtain ⟨ha, hb, hc, hd⟩ := hl
  simp only at ha hb hc hd
  have hbd := isP_bd hp
  have go : ∀ i : Int, 0 ≤ i ∧ i < 4 → whileO (g28_l0 (a, b, c, d, ()) (i, [a, b, c, d], ())) (((Int.toNat i : Nat) : Int), 0, [a, b, c, d], ()) = _ := fun i hi => in28 (x := (a, b, c, d, ())) (L := [a, b, c, d]) rfl hi
  unfold g28
  simp only
  rw [gd_pos (by omega)]
  by_cases hab : a = b
  · subst hab
    have hf : lineF p (a, a, c, d, ()) = false := by simp [lineF, distF, ieq_d]
    rw [hf]
    refine (whileO_go (s' := ((1 : Int), [a, a, c, d], ())) ?_).trans ?_
    · simp only
      rw [cond_t (by decide), gd_pos (by decide), gd_pos (by decide), gd_pos (by simp)]
      exact (go 0 (by decide)).trans rfl
    · refine whileO_out ?_
      simp only
      rw [cond_t (by decide), gd_pos (by decide), gd_pos (by decide), gd_pos (by simp)]
      refine (go 1 (by decide)).trans ?_
      have h1 : eqI (a, a, c, d, ()) [a, a, c, d] 1 = some () := by
        have hh : eqI (a, a, c, d, ()) [a, a, c, d] 1 = (match eqJ a [a, a, c, d] 0 with | some x => some x | none => none) := by kernel_rfl
        rw [hh]
        simp [eqJ, ieq_d]
      rw [h1]
      rfl
  have hj : inPt p (joinR p a b) = true := by rw [← thr_join hp ha hb hab]; exact (join_on hp ha hb hab).1
  refine (find_loop (p := 4) (fun i => ((i, [a, b, c, d], ()) : Int × List Int × Unit)) (eqI (a, b, c, d, ()) [a, b, c, d]) (fun r => ((false, ()) : Bool × Unit)) ((onF p c (joinR p a b) && onF p d (joinR p a b), ()) : Bool × Unit) (by omega) ?_ ?_).trans ?_
  · intro i h0 h1
    simp only
    rw [cond_t (ilt_iff.2 h1), gd_pos (by omega), gd_pos (by omega), gd_pos (by simp)]
    exact go i ⟨h0, h1⟩
  · simp only
    rw [cond_f (by decide)]
    simp [gd_true, hp, ha, hb, hc, hd, hj]
    try rfl
  · have h0 : eqI (a, b, c, d, ()) [a, b, c, d] 0 = none := rfl
    have h1 : eqI (a, b, c, d, ()) [a, b, c, d] 1 = eqJ b [a, b, c, d] 0 := by
      have hh : eqI (a, b, c, d, ()) [a, b, c, d] 1 = (match eqJ b [a, b, c, d] 0 with | some x => some x | none => none) := by kernel_rfl
      rw [hh]
      cases eqJ b [a, b, c, d] 0 <;> rfl
    have h2 : eqI (a, b, c, d, ()) [a, b, c, d] 2 = (match eqJ c [a, b, c, d] 0 with | some x => some x | none => match eqJ c [a, b, c, d] 1 with | some x => some x | none => none) := by kernel_rfl
    have h3 : eqI (a, b, c, d, ()) [a, b, c, d] 3 = (match eqJ d [a, b, c, d] 0 with | some x => some x | none => match eqJ d [a, b, c, d] 1 with | some x => some x | none => match eqJ d [a, b, c, d] 2 with | some x => some x | none => none) := by kernel_rfl
    have hf : findI (eqI (a, b, c, d, ()) [a, b, c, d]) (4 : Int).toNat 0 = (match eqI (a, b, c, d, ()) [a, b, c, d] 0 with | some x => some x | none => match eqI (a, b, c, d, ()) [a, b, c, d] 1 with | some x => some x | none => match eqI (a, b, c, d, ()) [a, b, c, d] 2 with | some x => some x | none => match eqI (a, b, c, d, ()) [a, b, c, d] 3 with | some x => some x | none => none) := by kernel_rfl
    rw [hf, h0, h1, h2, h3]
    have hba : b ≠ a := fun h => hab h.symm
    have s1 : (a = c) = (c = a) := propext eq_comm
    have s2 : (b = c) = (c = b) := propext eq_comm
    have s3 : (a = d) = (d = a) := propext eq_comm
    have s4 : (b = d) = (d = b) := propext eq_comm
    have s5 : (c = d) = (d = c) := propext eq_comm
    by_cases q1 : c = a <;> by_cases q2 : c = b <;> by_cases q3 : d = a <;> by_cases q4 : d = b <;> by_cases q5 : d = c <;>
      simp [eqJ, pick, lineF, distF, ieq_d, hab, hba, s1, s2, s3, s4, s5, q1, q2, q3, q4, q5]
set_option maxRecDepth 100000 in
theorem ok28 : con28.Ok Try.prog := Con.of_goal mixed (okC ok23 (okC ok32 okN)) con28 goal28

end Go.Arcs
