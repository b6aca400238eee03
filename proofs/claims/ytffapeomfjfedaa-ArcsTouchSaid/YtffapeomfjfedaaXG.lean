/- Greatest and Tangents: contracts. -/
import Derived.Test.YtffapeomfjfedaaXF
set_option linter.unusedVariables false
set_option linter.unusedSimpArgs false
namespace Go.Arcs
open Go Go.Ab Go.Proofs

def greatR (p : Int) : Int := if p = 2 then 4 else p + 1
def greatX (p : Int) : Int × Int × Unit := if isPb p = true then (greatR p, 0, ()) else (0, 2, ())
noncomputable def con39 : Con := mkC 39 [.d I64] [I64, I64] (fun (p : Int) => []) (fun (p : Int) => greatX p)
noncomputable def g39 (x0 : Int) : Option (Int × Int × Unit) := gd (small ([] : List Int)) (bif !(readF x0 ([] : List Int)).2.1 then some (((0 : Int), (2 : Int), ()) : Int × Int × Unit) else bif ieq x0 (2 : Int) then some ((wr IntKind.i64 (x0 + (2 : Int)), (0 : Int), ()) : Int × Int × Unit) else some ((wr IntKind.i64 (x0 + (1 : Int)), (0 : Int), ()) : Int × Int × Unit))
noncomputable def g39_sh : List LSh := ([] : List LSh)
noncomputable def tanF (p : Int) (l : List Int) (a : Int) : List Int := flt (fun (b : Nat) => onF p a (b : Int) && ieq (meetsF p l (b : Int)) 1) (ptsC p).length
noncomputable def tanX (p : Int) (l : List Int) (a : Int) : List Int × Int × Unit := if okSet p l = true ∧ l.contains a = true then (tanF p l a, 0, ()) else ([], 2, ())
noncomputable def con40 : Con := mkC 40 [.d I64, .d LI, .d I64] [LI, I64] (fun (p : Int) (l : List Int) (a : Int) => [small l]) (fun (p : Int) (l : List Int) (a : Int) => tanX p l a)
noncomputable def g40 (x0 : Int) (x1 : List Int) (x2 : Int) : Option (List Int × Int × Unit) := gd (small x1) (gd ((!!(setF x0 x1).2.1) = true → (!!(setF x0 x1).2.1) = true ∧ (!!(setF x0 x1).2.1) = true ∧ small x1) (gd ((!!(setF x0 x1).2.1) = true → (!!(setF x0 x1).2.1) = true) (gd ((!(setF x0 x1).2.1) = false → (!!(setF x0 x1).2.1) = true) (bif bif !(setF x0 x1).2.1 then true else !List.contains x1 x2 then some ((([] : List Int), (2 : Int), ()) : List Int × Int × Unit) else gd (Option.isSome (setF x0 x1).1 = true) (gd ((0 : Nat) = (0 : Nat)) (whileO (fun (d3 : Int × List Int × Unit) => bif ilt d3.1 (↑(List.length (Option.getD (setF x0 x1).1 (((0 : Int), ([] : List (Int × Int × Int × Unit)), ([] : List ((Int × Int × Int × Unit) × Int)), ()) : Int × List (Int × Int × Int × Unit) × List ((Int × Int × Int × Unit) × Int) × Unit)).2.1) : Int) then gd (Option.isSome (setF x0 x1).1 = true) (gd (isPl (Option.getD (setF x0 x1).1 (((0 : Int), ([] : List (Int × Int × Int × Unit)), ([] : List ((Int × Int × Int × Unit) × Int)), ()) : Int × List (Int × Int × Int × Unit) × List ((Int × Int × Int × Unit) × Int) × Unit))) (gd (inPt (Option.getD (setF x0 x1).1 (((0 : Int), ([] : List (Int × Int × Int × Unit)), ([] : List ((Int × Int × Int × Unit) × Int)), ()) : Int × List (Int × Int × Int × Unit) × List ((Int × Int × Int × Unit) × Int) × Unit)).1 x2 = true) (gd (inPt (Option.getD (setF x0 x1).1 (((0 : Int), ([] : List (Int × Int × Int × Unit)), ([] : List ((Int × Int × Int × Unit) × Int)), ()) : Int × List (Int × Int × Int × Unit) × List ((Int × Int × Int × Unit) × Int) × Unit)).1 d3.1 = true) (gd (onF (Option.getD (setF x0 x1).1 (((0 : Int), ([] : List (Int × Int × Int × Unit)), ([] : List ((Int × Int × Int × Unit) × Int)), ()) : Int × List (Int × Int × Int × Unit) × List ((Int × Int × Int × Unit) × Int) × Unit)).1 x2 d3.1 = true → onF (Option.getD (setF x0 x1).1 (((0 : Int), ([] : List (Int × Int × Int × Unit)), ([] : List ((Int × Int × Int × Unit) × Int)), ()) : Int × List (Int × Int × Int × Unit) × List ((Int × Int × Int × Unit) × Int) × Unit)).1 x2 d3.1 = true ∧ onF (Option.getD (setF x0 x1).1 (((0 : Int), ([] : List (Int × Int × Int × Unit)), ([] : List ((Int × Int × Int × Unit) × Int)), ()) : Int × List (Int × Int × Int × Unit) × List ((Int × Int × Int × Unit) × Int) × Unit)).1 x2 d3.1 = true ∧ onF (Option.getD (setF x0 x1).1 (((0 : Int), ([] : List (Int × Int × Int × Unit)), ([] : List ((Int × Int × Int × Unit) × Int)), ()) : Int × List (Int × Int × Int × Unit) × List ((Int × Int × Int × Unit) × Int) × Unit)).1 x2 d3.1 = true ∧ Option.isSome (setF x0 x1).1 = true ∧ isPl (Option.getD (setF x0 x1).1 (((0 : Int), ([] : List (Int × Int × Int × Unit)), ([] : List ((Int × Int × Int × Unit) × Int)), ()) : Int × List (Int × Int × Int × Unit) × List ((Int × Int × Int × Unit) × Int) × Unit)) ∧ List.all x1 (inPt (Option.getD (setF x0 x1).1 (((0 : Int), ([] : List (Int × Int × Int × Unit)), ([] : List ((Int × Int × Int × Unit) × Int)), ()) : Int × List (Int × Int × Int × Unit) × List ((Int × Int × Int × Unit) × Int) × Unit)).1) = true ∧ inPt (Option.getD (setF x0 x1).1 (((0 : Int), ([] : List (Int × Int × Int × Unit)), ([] : List ((Int × Int × Int × Unit) × Int)), ()) : Int × List (Int × Int × Int × Unit) × List ((Int × Int × Int × Unit) × Int) × Unit)).1 d3.1 = true ∧ small x1) (gd (onF (Option.getD (setF x0 x1).1 (((0 : Int), ([] : List (Int × Int × Int × Unit)), ([] : List ((Int × Int × Int × Unit) × Int)), ()) : Int × List (Int × Int × Int × Unit) × List ((Int × Int × Int × Unit) × Int) × Unit)).1 x2 d3.1 = true → onF (Option.getD (setF x0 x1).1 (((0 : Int), ([] : List (Int × Int × Int × Unit)), ([] : List ((Int × Int × Int × Unit) × Int)), ()) : Int × List (Int × Int × Int × Unit) × List ((Int × Int × Int × Unit) × Int) × Unit)).1 x2 d3.1 = true) (gd (onF (Option.getD (setF x0 x1).1 (((0 : Int), ([] : List (Int × Int × Int × Unit)), ([] : List ((Int × Int × Int × Unit) × Int)), ()) : Int × List (Int × Int × Int × Unit) × List ((Int × Int × Int × Unit) × Int) × Unit)).1 x2 d3.1 = true → onF (Option.getD (setF x0 x1).1 (((0 : Int), ([] : List (Int × Int × Int × Unit)), ([] : List ((Int × Int × Int × Unit) × Int)), ()) : Int × List (Int × Int × Int × Unit) × List ((Int × Int × Int × Unit) × Int) × Unit)).1 x2 d3.1 = true) (bif bif onF (Option.getD (setF x0 x1).1 (((0 : Int), ([] : List (Int × Int × Int × Unit)), ([] : List ((Int × Int × Int × Unit) × Int)), ()) : Int × List (Int × Int × Int × Unit) × List ((Int × Int × Int × Unit) × Int) × Unit)).1 x2 d3.1 then ieq (meetsF (Option.getD (setF x0 x1).1 (((0 : Int), ([] : List (Int × Int × Int × Unit)), ([] : List ((Int × Int × Int × Unit) × Int)), ()) : Int × List (Int × Int × Int × Unit) × List ((Int × Int × Int × Unit) × Int) × Unit)).1 x1 d3.1) (1 : Int) else false then gd (List.length d3.2.1 ≤ List.length d3.2.1) (gd ((List.length d3.2.1 + (1 : Nat)) * (8 : Nat) ≤ (1099511627776 : Nat)) (gd (List.length d3.2.1 + (1 : Nat) = List.length (List.take (List.length d3.2.1) d3.2.1 ++ d3.1 :: ([] : List Int))) (some (Lp.go ((wr IntKind.i64 (d3.1 + (1 : Int)), List.take (List.length d3.2.1) d3.2.1 ++ d3.1 :: ([] : List Int), ()) : Int × List Int × Unit))))) else gd (List.length d3.2.1 = List.length d3.2.1) (some (Lp.go ((wr IntKind.i64 (d3.1 + (1 : Int)), d3.2.1, ()) : Int × List Int × Unit)))))))))) else gd ((0 : Nat) + List.length d3.2.1 ≤ List.length d3.2.1) (some (Lp.out ((List.take (List.length d3.2.1) (List.drop (0 : Nat) d3.2.1), (0 : Int), ()) : List Int × Int × Unit)))) (((0 : Int), ([] : List Int), ()) : Int × List Int × Unit)))))))
noncomputable def g40_sh : List LSh := LSh.mk (((10, TV.slf (0) (1)) : Nat × TV) :: ((31, TV.v (Ty.int IntKind.i64)) : Nat × TV) :: ([] : List (Nat × TV))) (TB.arr (Ty.int IntKind.i64) true :: ([] : List TB)) :: ([] : List LSh)
end Go.Arcs

set_option linter.unusedVariables false
set_option linter.unusedSimpArgs false
namespace Go.Arcs
open Go Go.Ab Go.Proofs

theorem great_wr {p : Int} (hp : isP p) : (bif ieq p 2 then wr .i64 (p + 2) else wr .i64 (p + 1)) = greatR p := by
  rcases hp with rfl | rfl | rfl | rfl <;> decide

theorem goal39 : con39.goal Try.prog (spOf [conRead]) g39_sh [] lm30 := by
  have e : (∀ (p : Int), g39 p = some (greatX p)) = con39.goal Try.prog (spOf [conRead]) g39_sh [] lm30 := by kernel_rfl
  rw [← e]
  intro p
  unfold g39
  rw [gd_pos (by simp [small])]
  by_cases hp : isPb p = true
  · have hr : readF p [] = (some (planeF p), true, ()) := by simp [readF, hp]
    have hX : greatX p = (greatR p, 0, ()) := by rw [greatX, if_pos hp]
    have := great_wr (isPb_iff.1 hp)
    rw [hX, hr, ← this]
    cases ieq p 2 <;> rfl
  · have hr : readF p [] = (none, false, ()) := by rw [readF, if_neg hp]
    have hX : greatX p = (0, 2, ()) := by rw [greatX, if_neg hp]
    rw [hX, hr]; rfl
set_option maxRecDepth 100000 in
theorem ok39 : con39.Ok Try.prog := Con.of_goal mixed (okC okRead okN) con39 goal39

theorem goal40 : con40.goal Try.prog (spOf [con78, con79, con70, con37]) g40_sh [] lm30 := by
  have e : (∀ (p : Int) (l : List Int) (a : Int), small l → g40 p l a = some (tanX p l a)) = con40.goal Try.prog (spOf [con78, con79, con70, con37]) g40_sh [] lm30 := by kernel_rfl
  rw [← e]
  intro p l a hs
  unfold g40
  rw [gd_pos hs]
  by_cases h : okSet p l = true
  · obtain ⟨hpb, hal, hr⟩ := okSet_all h
    have hp := isPb_iff.1 hpb
    have h1 : (planeF p).1 = p := rfl
    have hpts : (planeF p).2.1 = ptsC p := plane_pts p (isP_mem hp)
    have hpl : isPl (planeF p) := ⟨hp, rfl⟩
    have h57 := pts_57 hp
    simp only [setF_ok h, Option.getD_some, Option.isSome_some, h1, hpts]
    by_cases ha : l.contains a = true
    · have hX : tanX p l a = (tanF p l a, 0, ()) := by rw [tanX, if_pos ⟨h, ha⟩]
      have hia : inPt p a = true := List.all_eq_true.1 hal a (List.contains_iff_mem.1 ha)
      rw [hX, ha]
      rw [gd_pos (by simp [hs]), gd_pos (by simp), gd_pos (by simp)]
      refine (cond_f rfl).trans ?_
      rw [gd_pos trivial, gd_pos trivial]
      refine whileO_nat (st := fun i : Nat => ((i : Int), flt (fun (b : Nat) => onF p a (b : Int) && ieq (meetsF p l (b : Int)) 1) i, ())) (lo := 0) (hi := (ptsC p).length) (Nat.zero_le _) ?_ ?_
      · intro i _ hi
        have hfl := flt_len (q := fun (b : Nat) => onF p a (b : Int) && ieq (meetsF p l (b : Int)) 1) (n := i)
        refine (cond_t (ilt_iff.2 (by simp only; omega))).trans ?_
        simp only [gd_true, hpl, hal, hia, inPt_nat hp hi, hs, cast1 (i := i) (by omega), List.take_length, flt_succ]
        cases hq0 : onF p a i <;> cases hq1 : ieq (meetsF p l i) 1
        · simp [gd_true]
        · simp [gd_true]
        · simp [gd_true]
        · simp only [Bool.and_true, Bool.and_self, if_true, imp_self, and_self, gd_true, cond_true]
          rw [gd_pos (Nat.le_refl _), gd_pos (by omega), gd_pos (by simp)]
      · refine (cond_f (ilt_false.2 (by simp only; omega))).trans ?_
        simp only [List.drop_zero, List.take_length]
        rw [gd_pos (by omega)]
        rfl
    · have hX : tanX p l a = ([], 2, ()) := by rw [tanX, if_neg (fun hc => ha hc.2)]
      have ha' : l.contains a = false := by simpa using ha
      rw [hX, ha']
      rw [gd_pos (by simp [hs]), gd_pos (by simp), gd_pos (by simp)]
      rfl
  · have hX : tanX p l a = ([], 2, ()) := by rw [tanX, if_neg (fun hc => h hc.1)]
    rw [hX, setF_no h]
    rw [gd_pos (by simp), gd_pos (by simp), gd_pos (by simp)]
    rfl
set_option maxRecDepth 100000 in
theorem ok40 : con40.Ok Try.prog := Con.of_goal mixed (okC ok78 (okC ok79 (okC ok70 (okC ok37 okN)))) con40 goal40

end Go.Arcs
