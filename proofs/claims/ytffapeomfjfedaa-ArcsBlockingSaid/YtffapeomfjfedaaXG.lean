/- Greatest and Tangents: contracts. -/
import Derived.Test.YtffapeomfjfedaaXF
set_option linter.unusedVariables false
set_option linter.unusedSimpArgs false
namespace Go.Arcs
open Go Go.Ab Go.Proofs

def greatR (p : Int) : Int := if p = 2 then 4 else p + 1
def greatX (p : Int) : Int × Int × Unit := if isPb p = true then (greatR p, 0, ()) else (0, 2, ())
noncomputable def con39 : Con := mkC 39 [.d I64] [I64, I64] (fun (p : Int) => []) (fun (p : Int) => greatX p)
noncomputable def g39 (x0 : Int) : Option (Int × Int × Unit) := gd (small ([] : List Int)) (bif !(readF x0 ([] : List Int)).2.1 then some (((0 : Int), (2 : Int), ()) : Int × Int × Unit) else bif ieq x0 (2 : Int) then some ((wr IntKind.i64 (x0 + (2 : Int)), (0 : Int), ()) : Int × Int × Unit) else some ((wr IntKind.i64 (x0 + (1 : Int)), (0 : Int), ()) : Int × Int × Unit))
noncomputable def g39_sh : List LSh := ([] : List LSh)
noncomputable def tanF (p : Int) (l : List Int) (a : Int) : List Int := flt (fun (b : Nat) => onF p a (b : Int) && ieq (meetsF p l (b : Int)) 1) (ptsC p).length
noncomputable def tanX (p : Int) (l : List Int) (a : Int) : List Int × Int × Unit := if okSet p l = true ∧ l.contains a = true then (tanF p l a, 0, ()) else ([], 2, ())
noncomputable def con40 : Con := mkC 40 [.d I64, .d LI, .d I64] [LI, I64] (fun (p : Int) (l : List Int) (a : Int) => [small l]) (fun (p : Int) (l : List Int) (a : Int) => tanX p l a)
noncomputable def g40 (x0 : Int) (x1 : List Int) (x2 : Int) : Option (List Int × Int × Unit) := gd (small x1) (gd ((!!(setF x0 x1).2.1) = true → (!!(setF x0 x1).2.1) = true ∧ (!!(setF x0 x1).2.1) = true ∧ small x1) (gd ((!!(setF x0 x1).2.1) = true → (!!(setF x0 x1).2.1) = true) (gd ((!(setF x0 x1).2.1) = false → (!!(setF x0 x1).2.1) = true) (bif bif !(setF x0 x1).2.1 then true else !List.contains x1 x2 then some ((([] : List Int), (2 : Int), ()) : List Int × Int × Unit) else gd (Option.isSome (setF x0 x1).1 = true) (gd ((0 : Nat) = (0 : Nat)) (whileO (fun (d3 : Int × List Int × Unit) => bif ilt d3.1 (↑(List.length (Option.getD (setF x0 x1).1 (((0 : Int), ([] : List (Int × Int × Int × Unit)), ([] : List ((Int × Int × Int × Unit) × Int)), ()) : Int × List (Int × Int × Int × Unit) × List ((Int × Int × Int × Unit) × Int) × Unit)).2.1) : Int) then gd (Option.isSome (setF x0 x1).1 = true) (gd (isPl (Option.getD (setF x0 x1).1 (((0 : Int), ([] : List (Int × Int × Int × Unit)), ([] : List ((Int × Int × Int × Unit) × Int)), ()) : Int × List (Int × Int × Int × Unit) × List ((Int × Int × Int × Unit) × Int) × Unit))) (gd (inPt (Option.getD (setF x0 x1).1 (((0 : Int), ([] : List (Int × Int × Int × Unit)), ([] : List ((Int × Int × Int × Unit) × Int)), ()) : Int × List (Int × Int × Int × Unit) × List ((Int × Int × Int × Unit) × Int) × Unit)).1 x2 = true) (gd (inPt (Option.getD (setF x0 x1).1 (((0 : Int), ([] : List (Int × Int × Int × Unit)), ([] : List ((Int × Int × Int × Unit) × Int)), ()) : Int × List (Int × Int × Int × Unit) × List ((Int × Int × Int × Unit) × Int) × Unit)).1 d3.1 = true) (gd (onF (Option.getD (setF x0 x1).1 (((0 : Int), ([] : List (Int × Int × Int × Unit)), ([] : List ((Int × Int × Int × Unit) × Int)), ()) : Int × List (Int × Int × Int × Unit) × List ((Int × Int × Int × Unit) × Int) × Unit)).1 x2 d3.1 = true → onF (Option.getD (setF x0 x1).1 (((0 : Int), ([] : List (Int × Int × Int × Unit)), ([] : List ((Int × Int × Int × Unit) × Int)), ()) : Int × List (Int × Int × Int × Unit) × List ((Int × Int × Int × Unit) × Int) × Unit)).1 x2 d3.1 = true ∧ onF (Option.getD (setF x0 x1).1 (((0 : Int), ([] : List (Int × Int × Int × Unit)), ([] : List ((Int × Int × Int × Unit) × Int)), ()) : Int × List (Int × Int × Int × Unit) × List ((Int × Int × Int × Unit) × Int) × Unit)).1 x2 d3.1 = true ∧ onF (Option.getD (setF x0 x1).1 (((0 : Int), ([] : List (Int × Int × Int × Unit)), ([] : List ((Int × Int × Int × Unit) × Int)), ()) : Int × List (Int × Int × Int × Unit) × List ((Int × Int × Int × Unit) × Int) × Unit)).1 x2 d3.1 = true ∧ Option.isSome (setF x0 x1).1 = true ∧ isPl (Option.getD (setF x0 x1).1 (((0 : Int), ([] : List (Int × Int × Int × Unit)), ([] : List ((Int × Int × Int × Unit) × Int)), ()) : Int × List (Int × Int × Int × Unit) × List ((Int × Int × Int × Unit) × Int) × Unit)) ∧ List.all x1 (inPt (Option.getD (setF x0 x1).1 (((0 : Int), ([] : List (Int × Int × Int × Unit)), ([] : List ((Int × Int × Int × Unit) × Int)), ()) : Int × List (Int × Int × Int × Unit) × List ((Int × Int × Int × Unit) × Int) × Unit)).1) = true ∧ inPt (Option.getD (setF x0 x1).1 (((0 : Int), ([] : List (Int × Int × Int × Unit)), ([] : List ((Int × Int × Int × Unit) × Int)), ()) : Int × List (Int × Int × Int × Unit) × List ((Int × Int × Int × Unit) × Int) × Unit)).1 d3.1 = true ∧ small x1) (gd (onF (Option.getD (setF x0 x1).1 (((0 : Int), ([] : List (Int × Int × Int × Unit)), ([] : List ((Int × Int × Int × Unit) × Int)), ()) : Int × List (Int × Int × Int × Unit) × List ((Int × Int × Int × Unit) × Int) × Unit)).1 x2 d3.1 = true → onF (Option.getD (setF x0 x1).1 (((0 : Int), ([] : List (Int × Int × Int × Unit)), ([] : List ((Int × Int × Int × Unit) × Int)), ()) : Int × List (Int × Int × Int × Unit) × List ((Int × Int × Int × Unit) × Int) × Unit)).1 x2 d3.1 = true) (gd (onF (Option.getD (setF x0 x1).1 (((0 : Int), ([] : List (Int × Int × Int × Unit)), ([] : List ((Int × Int × Int × Unit) × Int)), ()) : Int × List (Int × Int × Int × Unit) × List ((Int × Int × Int × Unit) × Int) × Unit)).1 x2 d3.1 = true → onF (Option.getD (setF x0 x1).1 (((0 : Int), ([] : List (Int × Int × Int × Unit)), ([] : List ((Int × Int × Int × Unit) × Int)), ()) : Int × List (Int × Int × Int × Unit) × List ((Int × Int × Int × Unit) × Int) × Unit)).1 x2 d3.1 = true) (bif bif onF (Option.getD (setF x0 x1).1 (((0 : Int), ([] : List (Int × Int × Int × Unit)), ([] : List ((Int × Int × Int × Unit) × Int)), ()) : Int × List (Int × Int × Int × Unit) × List ((Int × Int × Int × Unit) × Int) × Unit)).1 x2 d3.1 then ieq (meetsF (Option.getD (setF x0 x1).1 (((0 : Int), ([] : List (Int × Int × Int × Unit)), ([] : List ((Int × Int × Int × Unit) × Int)), ()) : Int × List (Int × Int × Int × Unit) × List ((Int × Int × Int × Unit) × Int) × Unit)).1 x1 d3.1) (1 : Int) else false then gd (List.length d3.2.1 ≤ List.length d3.2.1) (gd ((List.length d3.2.1 + (1 : Nat)) * (8 : Nat) ≤ (1099511627776 : Nat)) (gd (List.length d3.2.1 + (1 : Nat) = List.length (List.take (List.length d3.2.1) d3.2.1 ++ d3.1 :: ([] : List Int))) (some (Lp.go ((wr IntKind.i64 (d3.1 + (1 : Int)), List.take (List.length d3.2.1) d3.2.1 ++ d3.1 :: ([] : List Int), ()) : Int × List Int × Unit))))) else gd (List.length d3.2.1 = List.length d3.2.1) (some (Lp.go ((wr IntKind.i64 (d3.1 + (1 : Int)), d3.2.1, ()) : Int × List Int × Unit)))))))))) else gd ((0 : Nat) + List.length d3.2.1 ≤ List.length d3.2.1) (some (Lp.out ((List.take (List.length d3.2.1) (List.drop (0 : Nat) d3.2.1), (0 : Int), ()) : List Int × Int × Unit)))) (((0 : Int), ([] : List Int), ()) : Int × List Int × Unit)))))))
noncomputable def g40_sh : List LSh := LSh.mk (((10, TV.slf (0) (1)) : Nat × TV) :: ((31, TV.v (Ty.int IntKind.i64)) : Nat × TV) :: ([] : List (Nat × TV))) (TB.arr (Ty.int IntKind.i64) true :: ([] : List TB)) :: ([] : List LSh)
noncomputable def con41 : Con := mkC 41 [.d I64] [I64] (fun (p : Int) => [isP p]) (fun (p : Int) => (greatR p, ()))
noncomputable def g41 (x0 : Int) : Option (Int × Unit) := bif ieq x0 (2 : Int) then some (((4 : Int), ()) : Int × Unit) else some ((wr IntKind.i64 (x0 + (1 : Int)), ()) : Int × Unit)
noncomputable def g41_sh : List LSh := ([] : List LSh)
noncomputable def con44 : Con := mkC 44 [.d I64, .d LI, .d I64] [LI] (fun (p : Int) (l : List Int) (a : Int) => [isP p, l.all (inPt p) = true, inPt p a = true, small l]) (fun (p : Int) (l : List Int) (a : Int) => (tanF p l a, ()))
noncomputable def g44_l0 (x0 : Int) (x1 : List Int) (x2 : Int) (d3 : Int × List Int × Unit) (d4 : Int × Int × List Int × Unit) : Option (Lp (Int × Int × List Int × Unit) (Lp (Int × List Int × Unit) (List Int × Unit))) := bif ilt d4.2.1 (↑(List.length x1) : Int) then gd ((0 : Int) ≤ d4.2.1 ∧ d4.2.1 < (↑(List.length x1) : Int)) (gd (isP x0) (gd (inPt x0 (List.getD x1 (Int.toNat d4.2.1) (0 : Int)) = true) (gd (inPt x0 d3.1 = true) (bif onF x0 (List.getD x1 (Int.toNat d4.2.1) (0 : Int)) d3.1 then gd (List.length d4.2.2.1 = List.length d4.2.2.1) (some (Lp.go ((wr IntKind.i64 (d4.1 + (1 : Int)), wr IntKind.i64 (d4.2.1 + (1 : Int)), d4.2.2.1, ()) : Int × Int × List Int × Unit))) else gd (List.length d4.2.2.1 = List.length d4.2.2.1) (some (Lp.go ((d4.1, wr IntKind.i64 (d4.2.1 + (1 : Int)), d4.2.2.1, ()) : Int × Int × List Int × Unit))))))) else gd (List.getD (List.getD (tabF x0) (Int.toNat x2) ([] : List Bool)) (Int.toNat d3.1) false = true → List.getD (List.getD (tabF x0) (Int.toNat x2) ([] : List Bool)) (Int.toNat d3.1) false = true) (gd (List.getD (List.getD (tabF x0) (Int.toNat x2) ([] : List Bool)) (Int.toNat d3.1) false = true → List.getD (List.getD (tabF x0) (Int.toNat x2) ([] : List Bool)) (Int.toNat d3.1) false = true) (bif bif List.getD (List.getD (tabF x0) (Int.toNat x2) ([] : List Bool)) (Int.toNat d3.1) false then ieq d4.1 (1 : Int) else false then gd (List.length d4.2.2.1 ≤ List.length d4.2.2.1) (gd ((List.length d4.2.2.1 + (1 : Nat)) * (8 : Nat) ≤ (1099511627776 : Nat)) (gd (List.length d4.2.2.1 + (1 : Nat) = List.length (List.take (List.length d4.2.2.1) d4.2.2.1 ++ d3.1 :: ([] : List Int))) (some (Lp.out (Lp.go ((wr IntKind.i64 (d3.1 + (1 : Int)), List.take (List.length d4.2.2.1) d4.2.2.1 ++ d3.1 :: ([] : List Int), ()) : Int × List Int × Unit)))))) else gd (List.length d4.2.2.1 = List.length d4.2.2.1) (some (Lp.out (Lp.go ((wr IntKind.i64 (d3.1 + (1 : Int)), d4.2.2.1, ()) : Int × List Int × Unit))))))
noncomputable def g44 (x0 : Int) (x1 : List Int) (x2 : Int) : Option (List Int × Unit) := gd (isP x0) (gd ((0 : Int) ≤ x2 ∧ x2 < (↑(List.length (tabF x0)) : Int)) (gd ((0 : Nat) = (0 : Nat)) (whileO (fun (d3 : Int × List Int × Unit) => bif ilt d3.1 (↑(List.length (List.getD (tabF x0) (Int.toNat x2) ([] : List Bool))) : Int) then gd ((0 : Int) ≤ d3.1 ∧ d3.1 < (↑(List.length (List.getD (tabF x0) (Int.toNat x2) ([] : List Bool))) : Int)) (gd (List.length d3.2.1 = List.length d3.2.1) (whileO (g44_l0 x0 x1 x2 d3) (((0 : Int), (0 : Int), d3.2.1, ()) : Int × Int × List Int × Unit))) else gd ((0 : Nat) + List.length d3.2.1 ≤ List.length d3.2.1) (some (Lp.out ((List.take (List.length d3.2.1) (List.drop (0 : Nat) d3.2.1), ()) : List Int × Unit)))) (((0 : Int), ([] : List Int), ()) : Int × List Int × Unit))))
noncomputable def g44_sh : List LSh := LSh.mk (((7, TV.slf (0) (1)) : Nat × TV) :: ((19, TV.v (Ty.int IntKind.i64)) : Nat × TV) :: ([] : List (Nat × TV))) (TB.arr (Ty.int IntKind.i64) true :: ([] : List TB)) :: LSh.mk (((7, TV.slf (0) (1)) : Nat × TV) :: ((10, TV.v (Ty.int IntKind.i64)) : Nat × TV) :: ((26, TV.v (Ty.int IntKind.i64)) : Nat × TV) :: ([] : List (Nat × TV))) (TB.arr (Ty.int IntKind.i64) true :: ([] : List TB)) :: ([] : List LSh)
noncomputable def con8 : Con := mkC 8 [.d I64, .d LI, .d I64] [.bool] (fun (p : Int) (l : List Int) (a : Int) => [small2 l]) (fun (p : Int) (l : List Int) (a : Int) => (true, ()))
noncomputable def g8 (x0 : Int) (x1 : List Int) (x2 : Int) : Option (Bool × Unit) := gd (small (List.take (60 : Nat) x1)) (bif !isPb x0 then gd (ieq (greatX x0).1 (0 : Int) = true → ieq (greatX x0).1 (0 : Int) = true) (gd (ieq (greatX x0).1 (0 : Int) = true → ieq (greatX x0).1 (0 : Int) = true) (gd (ieq (greatX x0).1 (0 : Int) = true → ieq (greatX x0).1 (0 : Int) = true) (gd ((bif ieq (greatX x0).1 (0 : Int) then ieq (↑(List.length (tanX x0 (List.take (60 : Nat) x1) x2).1) : Int) (0 : Int) else false) = true → (bif ieq (greatX x0).1 (0 : Int) then ieq (↑(List.length (tanX x0 (List.take (60 : Nat) x1) x2).1) : Int) (0 : Int) else false) = true) (gd ((bif ieq (greatX x0).1 (0 : Int) then ieq (↑(List.length (tanX x0 (List.take (60 : Nat) x1) x2).1) : Int) (0 : Int) else false) = true → (bif ieq (greatX x0).1 (0 : Int) then ieq (↑(List.length (tanX x0 (List.take (60 : Nat) x1) x2).1) : Int) (0 : Int) else false) = true) (gd ((bif bif ieq (greatX x0).1 (0 : Int) then ieq (↑(List.length (tanX x0 (List.take (60 : Nat) x1) x2).1) : Int) (0 : Int) else false then ieq (greatX x0).2.1 (2 : Int) else false) = true → (bif bif ieq (greatX x0).1 (0 : Int) then ieq (↑(List.length (tanX x0 (List.take (60 : Nat) x1) x2).1) : Int) (0 : Int) else false then ieq (greatX x0).2.1 (2 : Int) else false) = true) (gd ((bif bif ieq (greatX x0).1 (0 : Int) then ieq (↑(List.length (tanX x0 (List.take (60 : Nat) x1) x2).1) : Int) (0 : Int) else false then ieq (greatX x0).2.1 (2 : Int) else false) = true → (bif bif ieq (greatX x0).1 (0 : Int) then ieq (↑(List.length (tanX x0 (List.take (60 : Nat) x1) x2).1) : Int) (0 : Int) else false then ieq (greatX x0).2.1 (2 : Int) else false) = true) (gd ((bif bif bif ieq (greatX x0).1 (0 : Int) then ieq (↑(List.length (tanX x0 (List.take (60 : Nat) x1) x2).1) : Int) (0 : Int) else false then ieq (greatX x0).2.1 (2 : Int) else false then ieq (tanX x0 (List.take (60 : Nat) x1) x2).2.1 (2 : Int) else false) = true → (bif bif bif ieq (greatX x0).1 (0 : Int) then ieq (↑(List.length (tanX x0 (List.take (60 : Nat) x1) x2).1) : Int) (0 : Int) else false then ieq (greatX x0).2.1 (2 : Int) else false then ieq (tanX x0 (List.take (60 : Nat) x1) x2).2.1 (2 : Int) else false) = true) (some ((bif bif bif bif ieq (greatX x0).1 (0 : Int) then ieq (↑(List.length (tanX x0 (List.take (60 : Nat) x1) x2).1) : Int) (0 : Int) else false then ieq (greatX x0).2.1 (2 : Int) else false then ieq (tanX x0 (List.take (60 : Nat) x1) x2).2.1 (2 : Int) else false then true else false, ()) : Bool × Unit))))))))) else gd (isP x0) (gd ((!!ieq (greatX x0).1 (greatR x0)) = true → (!!ieq (greatX x0).1 (greatR x0)) = true) (gd ((!ieq (greatX x0).1 (greatR x0)) = false → (!!ieq (greatX x0).1 (greatR x0)) = true) (gd ((!bif !ieq (greatX x0).1 (greatR x0) then true else !ieq (greatX x0).2.1 (0 : Int)) = true → (!bif !ieq (greatX x0).1 (greatR x0) then true else !ieq (greatX x0).2.1 (0 : Int)) = true) (gd ((bif !ieq (greatX x0).1 (greatR x0) then true else !ieq (greatX x0).2.1 (0 : Int)) = false → (!bif !ieq (greatX x0).1 (greatR x0) then true else !ieq (greatX x0).2.1 (0 : Int)) = true) (bif bif bif !ieq (greatX x0).1 (greatR x0) then true else !ieq (greatX x0).2.1 (0 : Int) then true else false then some ((false, ()) : Bool × Unit) else gd (isP x0) (gd (small2 x1) (gd ((!!(List.all x1 (inPt x0) && ris x1)) = true → (!!(List.all x1 (inPt x0) && ris x1)) = true ∧ (!!(List.all x1 (inPt x0) && ris x1)) = true ∧ small x1) (gd ((!!(List.all x1 (inPt x0) && ris x1)) = true → (!!(List.all x1 (inPt x0) && ris x1)) = true) (gd ((!(List.all x1 (inPt x0) && ris x1)) = false → (!!(List.all x1 (inPt x0) && ris x1)) = true) (bif bif !(List.all x1 (inPt x0) && ris x1) then true else !List.contains x1 x2 then gd (ieq (↑(List.length (tanX x0 (List.take (60 : Nat) x1) x2).1) : Int) (0 : Int) = true → ieq (↑(List.length (tanX x0 (List.take (60 : Nat) x1) x2).1) : Int) (0 : Int) = true) (gd (ieq (↑(List.length (tanX x0 (List.take (60 : Nat) x1) x2).1) : Int) (0 : Int) = true → ieq (↑(List.length (tanX x0 (List.take (60 : Nat) x1) x2).1) : Int) (0 : Int) = true) (some ((bif ieq (↑(List.length (tanX x0 (List.take (60 : Nat) x1) x2).1) : Int) (0 : Int) then ieq (tanX x0 (List.take (60 : Nat) x1) x2).2.1 (2 : Int) else false, ()) : Bool × Unit))) else gd (isP x0) (gd (List.all x1 (inPt x0) = true) (gd (inPt x0 x2 = true) (gd (small x1) (gd (small (tanX x0 (List.take (60 : Nat) x1) x2).1) (gd (small (tanF x0 x1 x2)) (gd (eqLf ieq (tanX x0 (List.take (60 : Nat) x1) x2).1 (tanF x0 x1 x2) = true → eqLf ieq (tanX x0 (List.take (60 : Nat) x1) x2).1 (tanF x0 x1 x2) = true) (gd (eqLf ieq (tanX x0 (List.take (60 : Nat) x1) x2).1 (tanF x0 x1 x2) = true → eqLf ieq (tanX x0 (List.take (60 : Nat) x1) x2).1 (tanF x0 x1 x2) = true) (some ((bif eqLf ieq (tanX x0 (List.take (60 : Nat) x1) x2).1 (tanF x0 x1 x2) then ieq (tanX x0 (List.take (60 : Nat) x1) x2).2.1 (0 : Int) else false, ()) : Bool × Unit))))))))))))))))))))
noncomputable def g8_sh : List LSh := ([] : List LSh)



end Go.Arcs

set_option linter.unusedVariables false
set_option linter.unusedSimpArgs false
namespace Go.Arcs
open Go Go.Ab Go.Proofs

theorem great_wr {p : Int} (hp : isP p) : (bif ieq p 2 then wr .i64 (p + 2) else wr .i64 (p + 1)) = greatR p := by
  rcases hp with rfl | rfl | rfl | rfl <;> decide

theorem goal39 : con39.goal Try.prog (spOf [conRead]) g39_sh [] lm30 := by
  have e : (∀ (p : Int), g39 p = some (greatX p)) = con39.goal Try.prog (spOf [conRead]) g39_sh [] lm30 := by kernel_rfl
  rw [← e]
  intro p
  unfold g39
  rw [gd_pos (by simp [small])]
  by_cases hp : isPb p = true
  · have hr : readF p [] = (some (planeF p), true, ()) := by simp [readF, hp]
    have hX : greatX p = (greatR p, 0, ()) := by rw [greatX, if_pos hp]
    have := great_wr (isPb_iff.1 hp)
    rw [hX, hr, ← this]
    cases ieq p 2 <;> rfl
  · have hr : readF p [] = (none, false, ()) := by rw [readF, if_neg hp]
    have hX : greatX p = (0, 2, ()) := by rw [greatX, if_neg hp]
    rw [hX, hr]; rfl
set_option maxRecDepth 100000 in
theorem ok39 : con39.Ok Try.prog := Con.of_goal mixed (okC okRead okN) con39 goal39

theorem goal41 : con41.goal Try.prog (spOf []) g41_sh [] lm30 := by
  have e : (∀ (p : Int), isP p → g41 p = some (greatR p, ())) = con41.goal Try.prog (spOf []) g41_sh [] lm30 := by kernel_rfl
  rw [← e]
  intro p hp
  unfold g41
  rcases hp with rfl | rfl | rfl | rfl <;> decide
set_option maxRecDepth 100000 in
theorem ok41 : con41.Ok Try.prog := Con.of_goal mixed okN con41 goal41

theorem goal40 : con40.goal Try.prog (spOf [con78, con79, con70, con37]) g40_sh [] lm30 := by
  have e : (∀ (p : Int) (l : List Int) (a : Int), small l → g40 p l a = some (tanX p l a)) = con40.goal Try.prog (spOf [con78, con79, con70, con37]) g40_sh [] lm30 := by kernel_rfl
  rw [← e]
  intro p l a hs
  unfold g40
  rw [gd_pos hs]
  by_cases h : okSet p l = true
  · obtain ⟨hpb, hal, hr⟩ := okSet_all h
    have hp := isPb_iff.1 hpb
    have h1 : (planeF p).1 = p := rfl
    have hpts : (planeF p).2.1 = ptsC p := plane_pts p (isP_mem hp)
    have hpl : isPl (planeF p) := ⟨hp, rfl⟩
    have h57 := pts_57 hp
    simp only [setF_ok h, Option.getD_some, Option.isSome_some, h1, hpts]
    by_cases ha : l.contains a = true
    · have hX : tanX p l a = (tanF p l a, 0, ()) := by rw [tanX, if_pos ⟨h, ha⟩]
      have hia : inPt p a = true := List.all_eq_true.1 hal a (List.contains_iff_mem.1 ha)
      rw [hX, ha]
      rw [gd_pos (by simp [hs]), gd_pos (by simp), gd_pos (by simp)]
      refine (cond_f rfl).trans ?_
      rw [gd_pos trivial, gd_pos trivial]
      refine whileO_nat (st := fun i : Nat => ((i : Int), flt (fun (b : Nat) => onF p a (b : Int) && ieq (meetsF p l (b : Int)) 1) i, ())) (lo := 0) (hi := (ptsC p).length) (Nat.zero_le _) ?_ ?_
      · intro i _ hi
        have hfl := flt_len (q := fun (b : Nat) => onF p a (b : Int) && ieq (meetsF p l (b : Int)) 1) (n := i)
        refine (cond_t (ilt_iff.2 (by simp only; omega))).trans ?_
        simp only [gd_true, hpl, hal, hia, inPt_nat hp hi, hs, cast1 (i := i) (by omega), List.take_length, flt_succ]
        cases hq0 : onF p a i <;> cases hq1 : ieq (meetsF p l i) 1
        · simp [gd_true]
        · simp [gd_true]
        · simp [gd_true]
        · simp only [Bool.and_true, Bool.and_self, if_true, imp_self, and_self, gd_true, cond_true]
          rw [gd_pos (Nat.le_refl _), gd_pos (by omega), gd_pos (by simp)]
      · refine (cond_f (ilt_false.2 (by simp only; omega))).trans ?_
        simp only [List.drop_zero, List.take_length]
        rw [gd_pos (by omega)]
        rfl
    · have hX : tanX p l a = ([], 2, ()) := by rw [tanX, if_neg (fun hc => ha hc.2)]
      have ha' : l.contains a = false := by simpa using ha
      rw [hX, ha']
      rw [gd_pos (by simp [hs]), gd_pos (by simp), gd_pos (by simp)]
      rfl
  · have hX : tanX p l a = ([], 2, ()) := by rw [tanX, if_neg (fun hc => h hc.1)]
    rw [hX, setF_no h]
    rw [gd_pos (by simp), gd_pos (by simp), gd_pos (by simp)]
    rfl
set_option maxRecDepth 100000 in
theorem ok40 : con40.Ok Try.prog := Con.of_goal mixed (okC ok78 (okC ok79 (okC ok70 (okC ok37 okN)))) con40 goal40

theorem goal44 : con44.goal Try.prog (spOf [con81, con32]) g44_sh [] lm30 := by
  have e : (∀ (p : Int) (l : List Int) (a : Int), isP p → l.all (inPt p) = true → inPt p a = true → small l → g44 p l a = some (tanF p l a, ())) = con44.goal Try.prog (spOf [con81, con32]) g44_sh [] lm30 := by kernel_rfl
  rw [← e]
  intro p l a hp hall ha hs
  unfold small at hs
  have hA := inPt_iff.1 ha
  have hN := pts_len p (isP_mem hp)
  have h57 := pts_57 hp
  have hrow : (List.getD (tabF p) a.toNat []).length = (ptsC p).length := by
    rw [gd_at (by rw [tab_len]; omega)]
    exact tab_row (List.getElem_mem _)
  have hat : ∀ i : Nat, (List.getD (tabF p) a.toNat []).getD i false = tAt (tabF p) a (i : Int) := fun i => rfl
  unfold g44
  rw [gd_pos hp, gd_pos (by rw [tab_len]; omega), gd_pos rfl]
  rw [hrow]
  refine whileO_nat (st := fun i : Nat => ((i : Int), flt (fun (b : Nat) => onF p a (b : Int) && ieq (meetsF p l (b : Int)) 1) i, ())) (lo := 0) (hi := (ptsC p).length) (Nat.zero_le _) ?_ ?_
  · intro i _ hi
    have hfl := flt_len (q := fun (b : Nat) => onF p a (b : Int) && ieq (meetsF p l (b : Int)) 1) (n := i)
    refine (cond_t (ilt_iff.2 (by simp only; omega))).trans ?_
    rw [gd_pos (by simp only; omega), gd_pos rfl]
    refine whileO_nat (st := fun j : Nat => (((l.take j).countP (fun x => onF p x i) : Int), (j : Int), flt (fun (b : Nat) => onF p a (b : Int) && ieq (meetsF p l (b : Int)) 1) i, ())) (lo := 0) (hi := l.length) (Nat.zero_le _) ?_ ?_
    · intro j _ hj
      have hx : inPt p l[j] = true := List.all_eq_true.1 hall _ (List.getElem_mem hj)
      have hc : (l.take j).countP (fun x => onF p x i) ≤ j := Nat.le_trans List.countP_le_length (by rw [List.length_take]; omega)
      unfold g44_l0
      refine (cond_t (ilt_iff.2 (by simp only; omega))).trans ?_
      simp only [Int.toNat_natCast, gd_at hj]
      rw [gd_pos (by omega), gd_pos hp, gd_pos hx, gd_pos (inPt_nat hp hi), cast1 (by omega), cast1 (by omega), take_count hj, gd_at hj]
      cases onF p l[j] i <;> simp [gd_true]
    · unfold g44_l0
      refine (cond_f (ilt_false.2 (by simp only; omega))).trans ?_
      simp only [Int.toNat_natCast, List.take_length, flt_succ, cast1 (i := i) (by omega), hat, tat_on hp ha (inPt_nat hp hi)]
      have hm : ((l.countP (fun x => onF p x i) : Nat) : Int) = meetsF p l i := rfl
      rw [hm]
      cases hq0 : onF p a i <;> cases hq1 : ieq (meetsF p l i) 1
      · simp [gd_true]
      · simp [gd_true]
      · simp [gd_true]
      · simp only [Bool.and_true, Bool.and_self, if_true, imp_self, and_self, gd_true, cond_true]
        rw [gd_pos (Nat.le_refl _), gd_pos (by omega), gd_pos (by simp)]
  · refine (cond_f (ilt_false.2 (by simp only; omega))).trans ?_
    simp only [List.drop_zero, List.take_length]
    rw [gd_pos (by omega)]
    rfl
set_option maxRecDepth 100000 in
theorem ok44 : con44.Ok Try.prog := Con.of_goal mixed (okC ok81 (okC ok32 okN)) con44 goal44

theorem goal8 : con8.goal Try.prog (spOf [con39, con34, con40, con25, con22, con41, con42, con37, con43, con44]) g8_sh [] lm30 := by
  have e : (∀ (p : Int) (l : List Int) (a : Int), small2 l → g8 p l a = some (true, ())) = con8.goal Try.prog (spOf [con39, con34, con40, con25, con22, con41, con42, con37, con43, con44]) g8_sh [] lm30 := by kernel_rfl
  rw [← e]
  intro p l a hs
  have ht : small (l.take 60) := by unfold small; rw [List.length_take]; omega
  unfold g8
  rw [gd_pos ht]
  cases hpb : isPb p with
  | false =>
    have hG : greatX p = (0, 2, ()) := by rw [greatX, if_neg (by rw [hpb]; simp)]
    have hT : tanX p (l.take 60) a = ([], 2, ()) := by
      rw [tanX, if_neg]
      rintro ⟨h, _⟩
      have := (okSet_all h).1
      rw [hpb] at this; cases this
    simp [hG, hT, gd_true, ieq_d]
  | true =>
    have hp := isPb_iff.1 hpb
    have hG : greatX p = (greatR p, 0, ()) := by rw [greatX, if_pos hpb]
    cases h : okSet p l with
    | true =>
      obtain ⟨_, hal, hr⟩ := okSet_all h
      have hlen := ok_len h
      have e1 : l.take 60 = l := List.take_of_length_le (by omega)
      have hsl : small l := by unfold small; omega
      have hal' := List.all_eq_true.1 hal
      by_cases ha : l.contains a = true
      · have hT : tanX p l a = (tanF p l a, 0, ()) := by rw [tanX, if_pos ⟨h, ha⟩]
        have hia : inPt p a = true := hal' a (List.contains_iff_mem.1 ha)
        have hsm : small (tanF p l a) := by
          have h1 : (tanF p l a).length ≤ (ptsC p).length := flt_len
          have h2 := pts_57 hp
          unfold small; omega
        have hq : eqLf ieq (tanF p l a) (tanF p l a) = true := (eqLf_iff (fun x y => ieq_iff)).2 rfl
        simp only [e1, hG, hT, hp, hal, hr, ha, hs, hsl, hia, hsm, hq]
        simp [gd_true, ieq_d]
      · have ha' : l.contains a = false := by simpa using ha
        have hT : tanX p l a = ([], 2, ()) := by rw [tanX, if_neg (fun hc => ha hc.2)]
        simp only [e1, hG, hT, hp, hal, hr, ha', hs, hsl]
        simp [gd_true, ieq_d]
    | false =>
      have hR : (l.all (inPt p) && ris l) = false := by
        simp only [okSet, hpb, Bool.true_and] at h; exact h
      have hT : tanX p (l.take 60) a = ([], 2, ()) := by
        rw [tanX, if_neg]
        rintro ⟨hc, _⟩
        rw [ok_take, h] at hc; cases hc
      simp only [hG, hT, hp, hs, hR]
      simp [gd_true, ieq_d]
set_option maxRecDepth 100000 in
theorem ok8 : con8.Ok Try.prog := Con.of_goal mixed (okC ok39 (okC ok34 (okC ok40 (okC ok25 (okC ok22 (okC ok41 (okC ok42 (okC ok37 (okC ok43 (okC ok44 okN)))))))))) con8 goal8

end Go.Arcs
