/- Points and On; the laws ArcsPoints and ArcsPlane as contracts. -/
import Derived.Test.YtffapeomfjfedaaXA
set_option linter.unusedVariables false
set_option linter.unusedSimpArgs false
namespace Go.Arcs
open Go Go.Ab Go.Proofs

def pointsF (p : Int) : List TripD × Int × Unit := if isPb p = true then (ptsC p, 0, ()) else ([], 2, ())
noncomputable def con24 : Con := mkC 24 [.d I64] [.slice Trip, I64] (fun (p : Int) => []) (fun (p : Int) => pointsF p)
noncomputable def g24 (x0 : Int) : Option (List (Int × Int × Int × Unit) × Int × Unit) := gd (small ([] : List Int)) (bif !(readF x0 ([] : List Int)).2.1 then some ((([] : List (Int × Int × Int × Unit)), (2 : Int), ()) : List (Int × Int × Int × Unit) × Int × Unit) else gd (Option.isSome (readF x0 ([] : List Int)).1 = true) (gd ((0 : Nat) = (0 : Nat)) (whileO (fun (d1 : Int × List (Int × Int × Int × Unit) × Unit) => bif ilt d1.1 (↑(List.length (Option.getD (readF x0 ([] : List Int)).1 (((0 : Int), ([] : List (Int × Int × Int × Unit)), ([] : List ((Int × Int × Int × Unit) × Int)), ()) : Int × List (Int × Int × Int × Unit) × List ((Int × Int × Int × Unit) × Int) × Unit)).2.1) : Int) then gd ((0 : Int) ≤ d1.1 ∧ d1.1 < (↑(List.length (Option.getD (readF x0 ([] : List Int)).1 (((0 : Int), ([] : List (Int × Int × Int × Unit)), ([] : List ((Int × Int × Int × Unit) × Int)), ()) : Int × List (Int × Int × Int × Unit) × List ((Int × Int × Int × Unit) × Int) × Unit)).2.1) : Int)) (gd ((3 : Nat) ≤ (3 : Nat)) (gd ((3 : Nat) ≤ (3 : Nat)) (gd (List.length d1.2.1 ≤ List.length d1.2.1) (gd ((List.length d1.2.1 + (1 : Nat)) * (24 : Nat) ≤ (1099511627776 : Nat)) (gd (List.length d1.2.1 + (1 : Nat) = List.length (List.take (List.length d1.2.1) d1.2.1 ++ (((List.getD (Option.getD (readF x0 ([] : List Int)).1 (((0 : Int), ([] : List (Int × Int × Int × Unit)), ([] : List ((Int × Int × Int × Unit) × Int)), ()) : Int × List (Int × Int × Int × Unit) × List ((Int × Int × Int × Unit) × Int) × Unit)).2.1 (Int.toNat d1.1) (((0 : Int), (0 : Int), (0 : Int), ()) : Int × Int × Int × Unit)).1, (List.getD (Option.getD (readF x0 ([] : List Int)).1 (((0 : Int), ([] : List (Int × Int × Int × Unit)), ([] : List ((Int × Int × Int × Unit) × Int)), ()) : Int × List (Int × Int × Int × Unit) × List ((Int × Int × Int × Unit) × Int) × Unit)).2.1 (Int.toNat d1.1) (((0 : Int), (0 : Int), (0 : Int), ()) : Int × Int × Int × Unit)).2.1, (List.getD (Option.getD (readF x0 ([] : List Int)).1 (((0 : Int), ([] : List (Int × Int × Int × Unit)), ([] : List ((Int × Int × Int × Unit) × Int)), ()) : Int × List (Int × Int × Int × Unit) × List ((Int × Int × Int × Unit) × Int) × Unit)).2.1 (Int.toNat d1.1) (((0 : Int), (0 : Int), (0 : Int), ()) : Int × Int × Int × Unit)).2.2.1, ()) : Int × Int × Int × Unit) :: ([] : List (Int × Int × Int × Unit)))) (some (Lp.go ((wr IntKind.i64 (d1.1 + (1 : Int)), List.take (List.length d1.2.1) d1.2.1 ++ (((List.getD (Option.getD (readF x0 ([] : List Int)).1 (((0 : Int), ([] : List (Int × Int × Int × Unit)), ([] : List ((Int × Int × Int × Unit) × Int)), ()) : Int × List (Int × Int × Int × Unit) × List ((Int × Int × Int × Unit) × Int) × Unit)).2.1 (Int.toNat d1.1) (((0 : Int), (0 : Int), (0 : Int), ()) : Int × Int × Int × Unit)).1, (List.getD (Option.getD (readF x0 ([] : List Int)).1 (((0 : Int), ([] : List (Int × Int × Int × Unit)), ([] : List ((Int × Int × Int × Unit) × Int)), ()) : Int × List (Int × Int × Int × Unit) × List ((Int × Int × Int × Unit) × Int) × Unit)).2.1 (Int.toNat d1.1) (((0 : Int), (0 : Int), (0 : Int), ()) : Int × Int × Int × Unit)).2.1, (List.getD (Option.getD (readF x0 ([] : List Int)).1 (((0 : Int), ([] : List (Int × Int × Int × Unit)), ([] : List ((Int × Int × Int × Unit) × Int)), ()) : Int × List (Int × Int × Int × Unit) × List ((Int × Int × Int × Unit) × Int) × Unit)).2.1 (Int.toNat d1.1) (((0 : Int), (0 : Int), (0 : Int), ()) : Int × Int × Int × Unit)).2.2.1, ()) : Int × Int × Int × Unit) :: ([] : List (Int × Int × Int × Unit)), ()) : Int × List (Int × Int × Int × Unit) × Unit)))))))) else gd ((0 : Nat) + List.length d1.2.1 ≤ List.length d1.2.1) (some (Lp.out ((List.take (List.length d1.2.1) (List.drop (0 : Nat) d1.2.1), (0 : Int), ()) : List (Int × Int × Int × Unit) × Int × Unit)))) (((0 : Int), ([] : List (Int × Int × Int × Unit)), ()) : Int × List (Int × Int × Int × Unit) × Unit))))
noncomputable def g24_sh : List LSh := LSh.mk (((6, TV.slf (0) (3)) : Nat × TV) :: ((21, TV.v (Ty.int IntKind.i64)) : Nat × TV) :: ([] : List (Nat × TV))) (TB.arr (Ty.prod (Ty.int IntKind.i64) (Ty.prod (Ty.int IntKind.i64) (Ty.prod (Ty.int IntKind.i64) Ty.unit))) true :: ([] : List TB)) :: ([] : List LSh)
def onFF (p a b : Int) : Bool × Int × Unit := if isPb p = true ∧ inPt p a = true ∧ inPt p b = true then (onF p a b, 0, ()) else (false, 2, ())
noncomputable def con26 : Con := mkC 26 [.d I64, .d I64, .d I64] [.bool, I64] (fun (p a b : Int) => []) (fun (p a b : Int) => onFF p a b)
noncomputable def g26 (x0 x1 x2 : Int) : Option (Bool × Int × Unit) := gd (small (x1 :: x2 :: ([] : List Int))) (bif !(readF x0 (x1 :: x2 :: ([] : List Int))).2.1 then some ((false, (2 : Int), ()) : Bool × Int × Unit) else gd (Option.isSome (readF x0 (x1 :: x2 :: ([] : List Int))).1 = true) (gd (isPl (Option.getD (readF x0 (x1 :: x2 :: ([] : List Int))).1 (((0 : Int), ([] : List (Int × Int × Int × Unit)), ([] : List ((Int × Int × Int × Unit) × Int)), ()) : Int × List (Int × Int × Int × Unit) × List ((Int × Int × Int × Unit) × Int) × Unit))) (gd (inPt (Option.getD (readF x0 (x1 :: x2 :: ([] : List Int))).1 (((0 : Int), ([] : List (Int × Int × Int × Unit)), ([] : List ((Int × Int × Int × Unit) × Int)), ()) : Int × List (Int × Int × Int × Unit) × List ((Int × Int × Int × Unit) × Int) × Unit)).1 x1 = true) (gd (inPt (Option.getD (readF x0 (x1 :: x2 :: ([] : List Int))).1 (((0 : Int), ([] : List (Int × Int × Int × Unit)), ([] : List ((Int × Int × Int × Unit) × Int)), ()) : Int × List (Int × Int × Int × Unit) × List ((Int × Int × Int × Unit) × Int) × Unit)).1 x2 = true) (some ((onF (Option.getD (readF x0 (x1 :: x2 :: ([] : List Int))).1 (((0 : Int), ([] : List (Int × Int × Int × Unit)), ([] : List ((Int × Int × Int × Unit) × Int)), ()) : Int × List (Int × Int × Int × Unit) × List ((Int × Int × Int × Unit) × Int) × Unit)).1 x1 x2, (0 : Int), ()) : Bool × Int × Unit))))))
noncomputable def g26_sh : List LSh := ([] : List LSh)
def eqLf {α : Type} (q : α → α → Bool) : List α → List α → Bool
  | [], [] => true
  | x :: l, y :: m => q x y && eqLf q l m
  | _, _ => false
def deqT (x y : TripD) : Bool := deq Trip x y
noncomputable def con30 : Con := mkC 30 [.d (.slice Trip), .d (.slice Trip)] [.bool] (fun (l m : List TripD) => [small l, small m]) (fun (l m : List TripD) => (eqLf deqT l m, ()))
noncomputable def g30 (x0 x1 : List (Int × Int × Int × Unit)) : Option (Bool × Unit) := bif !ieq (↑(List.length x0) : Int) (↑(List.length x1) : Int) then some ((false, ()) : Bool × Unit) else whileO (fun (d2 : Int × Unit) => bif ilt d2.1 (↑(List.length x0) : Int) then gd ((0 : Int) ≤ d2.1 ∧ d2.1 < (↑(List.length x0) : Int)) (gd ((0 : Int) ≤ d2.1 ∧ d2.1 < (↑(List.length x1) : Int)) (bif !deq (Ty.prod (Ty.int IntKind.i64) (Ty.prod (Ty.int IntKind.i64) (Ty.prod (Ty.int IntKind.i64) Ty.unit))) (List.getD x0 (Int.toNat d2.1) (((0 : Int), (0 : Int), (0 : Int), ()) : Int × Int × Int × Unit) : Int × Int × Int × Unit) (List.getD x1 (Int.toNat d2.1) (((0 : Int), (0 : Int), (0 : Int), ()) : Int × Int × Int × Unit) : Int × Int × Int × Unit) then some (Lp.out ((false, ()) : Bool × Unit)) else some (Lp.go ((wr IntKind.i64 (d2.1 + (1 : Int)), ()) : Int × Unit)))) else some (Lp.out ((true, ()) : Bool × Unit))) (((0 : Int), ()) : Int × Unit)
noncomputable def g30_sh : List LSh := LSh.mk (((13, TV.v (Ty.int IntKind.i64)) : Nat × TV) :: ([] : List (Nat × TV))) ([] : List TB) :: ([] : List LSh)
noncomputable def con6 : Con := mkC 6 [.d I64, .d I64, .d I64] [.bool] (fun (p a b : Int) => []) (fun (p a b : Int) => (true, ()))
noncomputable def g6 (x0 x1 x2 : Int) : Option (Bool × Unit) := bif !isPb x0 then gd (ieq (↑(List.length (pointsF x0).1) : Int) (0 : Int) = true → ieq (↑(List.length (pointsF x0).1) : Int) (0 : Int) = true) (gd (ieq (↑(List.length (pointsF x0).1) : Int) (0 : Int) = true → ieq (↑(List.length (pointsF x0).1) : Int) (0 : Int) = true) (gd ((bif ieq (↑(List.length (pointsF x0).1) : Int) (0 : Int) then !(onFF x0 x1 x2).1 else false) = true → (bif ieq (↑(List.length (pointsF x0).1) : Int) (0 : Int) then !(onFF x0 x1 x2).1 else false) = true) (gd ((bif ieq (↑(List.length (pointsF x0).1) : Int) (0 : Int) then !(onFF x0 x1 x2).1 else false) = true → (bif ieq (↑(List.length (pointsF x0).1) : Int) (0 : Int) then !(onFF x0 x1 x2).1 else false) = true) (gd ((bif bif ieq (↑(List.length (pointsF x0).1) : Int) (0 : Int) then !(onFF x0 x1 x2).1 else false then ieq (pointsF x0).2.1 (2 : Int) else false) = true → (bif bif ieq (↑(List.length (pointsF x0).1) : Int) (0 : Int) then !(onFF x0 x1 x2).1 else false then ieq (pointsF x0).2.1 (2 : Int) else false) = true) (gd ((bif bif ieq (↑(List.length (pointsF x0).1) : Int) (0 : Int) then !(onFF x0 x1 x2).1 else false then ieq (pointsF x0).2.1 (2 : Int) else false) = true → (bif bif ieq (↑(List.length (pointsF x0).1) : Int) (0 : Int) then !(onFF x0 x1 x2).1 else false then ieq (pointsF x0).2.1 (2 : Int) else false) = true) (gd ((bif bif bif ieq (↑(List.length (pointsF x0).1) : Int) (0 : Int) then !(onFF x0 x1 x2).1 else false then ieq (pointsF x0).2.1 (2 : Int) else false then ieq (onFF x0 x1 x2).2.1 (2 : Int) else false) = true → (bif bif bif ieq (↑(List.length (pointsF x0).1) : Int) (0 : Int) then !(onFF x0 x1 x2).1 else false then ieq (pointsF x0).2.1 (2 : Int) else false then ieq (onFF x0 x1 x2).2.1 (2 : Int) else false) = true) (some ((bif bif bif bif ieq (↑(List.length (pointsF x0).1) : Int) (0 : Int) then !(onFF x0 x1 x2).1 else false then ieq (pointsF x0).2.1 (2 : Int) else false then ieq (onFF x0 x1 x2).2.1 (2 : Int) else false then true else false, ()) : Bool × Unit)))))))) else gd (isP x0) (gd (small (pointsF x0).1) (gd (small (ptsC x0)) (gd ((!!eqLf deqT (pointsF x0).1 (ptsC x0)) = true → (!!eqLf deqT (pointsF x0).1 (ptsC x0)) = true) (gd ((!eqLf deqT (pointsF x0).1 (ptsC x0)) = false → (!!eqLf deqT (pointsF x0).1 (ptsC x0)) = true) (gd ((!bif !eqLf deqT (pointsF x0).1 (ptsC x0) then true else !ieq (pointsF x0).2.1 (0 : Int)) = true → (!bif !eqLf deqT (pointsF x0).1 (ptsC x0) then true else !ieq (pointsF x0).2.1 (0 : Int)) = true) (gd ((bif !eqLf deqT (pointsF x0).1 (ptsC x0) then true else !ieq (pointsF x0).2.1 (0 : Int)) = false → (!bif !eqLf deqT (pointsF x0).1 (ptsC x0) then true else !ieq (pointsF x0).2.1 (0 : Int)) = true) (bif bif bif !eqLf deqT (pointsF x0).1 (ptsC x0) then true else !ieq (pointsF x0).2.1 (0 : Int) then true else false then some ((false, ()) : Bool × Unit) else gd (small (x1 :: x2 :: ([] : List Int))) (bif !(isPb x0 && List.all (x1 :: x2 :: ([] : List Int)) (inPt x0)) then gd ((!(onFF x0 x1 x2).1) = true → (!(onFF x0 x1 x2).1) = true) (gd ((!(onFF x0 x1 x2).1) = true → (!(onFF x0 x1 x2).1) = true) (some ((bif !(onFF x0 x1 x2).1 then ieq (onFF x0 x1 x2).2.1 (2 : Int) else false, ()) : Bool × Unit))) else gd (isP x0) (gd (inPt x0 x1 = true) (gd (inPt x0 x2 = true) (gd (beqB (onFF x0 x1 x2).1 (onF x0 x1 x2) = true → beqB (onFF x0 x1 x2).1 (onF x0 x1 x2) = true) (gd (beqB (onFF x0 x1 x2).1 (onF x0 x1 x2) = true → beqB (onFF x0 x1 x2).1 (onF x0 x1 x2) = true) (some ((bif beqB (onFF x0 x1 x2).1 (onF x0 x1 x2) then ieq (onFF x0 x1 x2).2.1 (0 : Int) else false, ()) : Bool × Unit))))))))))))))
noncomputable def g6_sh : List LSh := ([] : List LSh)


theorem goal24 : con24.goal Try.prog (spOf [conRead]) g24_sh [] lm30 := by
  have e : (∀ (p : Int), g24 p = some (pointsF p)) = con24.goal Try.prog (spOf [conRead]) g24_sh [] lm30 := by kernel_rfl
  rw [← e]
  intro p
  unfold g24
  rw [gd_pos (by simp [small])]
  by_cases hp : isPb p = true
  · have hP := isPb_iff.1 hp
    have hr : readF p [] = (some (planeF p), true, ()) := by simp [readF, hp]
    have hpf : pointsF p = (ptsC p, 0, ()) := by simp [pointsF, hp]
    have hl := pts_len p (isP_mem hP)
    have h49 : p * p + p + 1 ≤ 57 := by rcases hP with rfl | rfl | rfl | rfl <;> decide
    simp only [hr, hpf, Bool.not_true, Option.getD_some, Option.isSome_some, plane_pts p (isP_mem hP), gd_true, Nat.le_refl, List.take_length, Nat.zero_add, List.drop_zero]
    rw [cond_f rfl]
    refine whileO_rec (fun (d : Int × List TripD × Unit) => 0 ≤ d.1 ∧ d.1 ≤ (ptsC p).length ∧ (d.2.1.length : Int) = d.1) (fun (d : Int × List TripD × Unit) => (ptsC p).length - d.1.toNat)
      (fun (d : Int × List TripD × Unit) => (d.2.1 ++ (ptsC p).drop d.1.toNat, 0, ())) ?_ ((0 : Int), [], ()) ⟨by simp only; omega, by simp only; omega, rfl⟩
    rintro ⟨i, xs, _⟩ ⟨h0, h1, h2⟩
    simp only at h0 h1 h2 ⊢
    by_cases hlt : i < (ptsC p).length
    · right
      have hn : i.toNat < (ptsC p).length := by omega
      have ht : (i + 1).toNat = i.toNat + 1 := by omega
      refine ⟨((i + 1, xs ++ [(ptsC p)[i.toNat]], ()) : Int × List TripD × Unit), ?_, ⟨by simp only; omega, by simp only; omega, by simp only [List.length_append, List.length_singleton]; omega⟩, by simp only; omega, ?_⟩
      · rw [cond_t (ilt_iff.2 hlt), gd_pos ⟨h0, hlt⟩, getD_at hn, gd_pos (by omega), gd_pos (by simp), wr_id (by omega)]
      · simp only [ht]
        rw [List.drop_eq_getElem_cons hn, List.append_assoc]
        rfl
    · left
      have : i.toNat = (ptsC p).length := by omega
      rw [cond_f (ilt_false.2 (by omega)), this, List.drop_length, List.append_nil]
  · have hr : readF p [] = (none, false, ()) := by simp [readF, hp]
    rw [hr]
    simp [pointsF, hp]
set_option maxRecDepth 100000 in
theorem ok24 : con24.Ok Try.prog := Con.of_goal mixed (okC okRead okN) con24 goal24

theorem goal26 : con26.goal Try.prog (spOf [conRead, con70]) g26_sh [] lm30 := by
  have e : (∀ (p a b : Int), g26 p a b = some (onFF p a b)) = con26.goal Try.prog (spOf [conRead, con70]) g26_sh [] lm30 := by kernel_rfl
  rw [← e]
  intro p a b
  have hs : small [a, b] := by simp [small]
  have h1 : (planeF p).1 = p := rfl
  unfold g26
  rw [gd_pos hs]
  by_cases hp : isPb p = true
  · have hpl : isPl (planeF p) := ⟨isPb_iff.1 hp, rfl⟩
    by_cases ha : inPt p a = true <;> by_cases hb : inPt p b = true <;> simp [readF, onFF, gd_true, hp, ha, hb, h1, hpl]
  · simp [readF, onFF, gd_true, hp]
set_option maxRecDepth 100000 in
theorem ok26 : con26.Ok Try.prog := Con.of_goal mixed (okC okRead (okC ok70 okN)) con26 goal26

theorem eqLf_len {α : Type} {q : α → α → Bool} : ∀ {l m : List α}, l.length ≠ m.length → eqLf q l m = false
  | [], [], h => absurd rfl h
  | [], _ :: _, _ => rfl
  | _ :: _, [], _ => rfl
  | x :: l, y :: m, h => by
    rw [eqLf, eqLf_len (by simpa using h), Bool.and_false]
theorem eqLf_iff {α : Type} {q : α → α → Bool} (hq : ∀ x y, q x y = true ↔ x = y) : ∀ {l m : List α}, eqLf q l m = true ↔ l = m
  | [], [] => by simp [eqLf]
  | [], _ :: _ => by simp [eqLf]
  | _ :: _, [] => by simp [eqLf]
  | x :: l, y :: m => by simp [eqLf, hq, eqLf_iff hq (l := l) (m := m)]
theorem deqT_iff (x y : TripD) : deqT x y = true ↔ x = y := deq_iff (t := Trip) rfl

theorem goal30 : con30.goal Try.prog (spOf []) g30_sh [] lm30 := by
  have e : (∀ (l m : List TripD), small l → small m → g30 l m = some (eqLf deqT l m, ())) = con30.goal Try.prog (spOf []) g30_sh [] lm30 := by kernel_rfl
  rw [← e]
  intro l m hs hs2
  unfold small at hs
  unfold g30
  by_cases hl : l.length = m.length
  · rw [cond_f (by simp [ieq, hl])]
    refine whileO_rec (fun (d : Int × Unit) => 0 ≤ d.1 ∧ d.1 ≤ l.length) (fun (d : Int × Unit) => l.length - d.1.toNat) (fun (d : Int × Unit) => (eqLf deqT (l.drop d.1.toNat) (m.drop d.1.toNat), ())) ?_ ((0 : Int), ()) ⟨by omega, by omega⟩
    rintro ⟨i, _⟩ ⟨h0, h1⟩
    simp only at h0 h1 ⊢
    by_cases hlt : i < l.length
    · have hn : i.toNat < l.length := by omega
      have hm : i.toNat < m.length := by omega
      have ht : (i + 1).toNat = i.toNat + 1 := by omega
      rw [cond_t (ilt_iff.2 hlt), gd_pos ⟨h0, hlt⟩, gd_pos (by omega), getD_at hn, getD_at hm, List.drop_eq_getElem_cons hn, List.drop_eq_getElem_cons hm]
      by_cases hz : deq Trip l[i.toNat] m[i.toNat] = true
      · right
        refine ⟨((i + 1, ()) : Int × Unit), by rw [hz, Bool.not_true, cond_f rfl, wr_id (by omega)], ⟨by simp only; omega, by simp only; omega⟩, by simp only; omega, ?_⟩
        simp only [ht]
        rw [eqLf, deqT, hz, Bool.true_and]
      · left
        have hz' : deq Trip l[i.toNat] m[i.toNat] = false := by simpa using hz
        rw [hz', Bool.not_false, cond_t rfl, eqLf, deqT, hz', Bool.false_and]
    · left
      have h1 : i.toNat = l.length := by omega
      have h2 : m.length = i.toNat := by omega
      rw [cond_f (ilt_false.2 (by omega)), h1, List.drop_length, hl, List.drop_length]
      rfl
  · rw [cond_t (by simp [ieq, hl]; omega), eqLf_len hl]
set_option maxRecDepth 100000 in
theorem ok30 : con30.Ok Try.prog := Con.of_goal mixed okN con30 goal30

theorem pts_small {p : Int} (hp : isP p) : small (ptsC p) := by
  have hl := pts_len p (isP_mem hp)
  have h49 : p * p + p + 1 ≤ 57 := by rcases hp with rfl | rfl | rfl | rfl <;> decide
  unfold small
  omega

theorem goal6 : con6.goal Try.prog (spOf [con24, con26, con25, con22, con30, con31, con21, con32]) g6_sh [] lm30 := by
  have e : (∀ (p a b : Int), g6 p a b = some (true, ())) = con6.goal Try.prog (spOf [con24, con26, con25, con22, con30, con31, con21, con32]) g6_sh [] lm30 := by kernel_rfl
  rw [← e]
  intro p a b
  have hs : small [a, b] := by simp [small]
  have hq : eqLf deqT (ptsC p) (ptsC p) = true := (eqLf_iff deqT_iff).2 rfl
  by_cases hp : isPb p = true
  · have hP := isPb_iff.1 hp
    have hsm := pts_small hP
    by_cases ha : inPt p a = true <;> by_cases hb : inPt p b = true <;> simp [g6, pointsF, onFF, gd_true, hp, ha, hb, hP, hs, hsm, hq, ieq_d, beqB]
  · simp [g6, pointsF, onFF, gd_true, hp, ieq_d]
set_option maxRecDepth 100000 in
theorem ok6 : con6.Ok Try.prog := Con.of_goal mixed (okC ok24 (okC ok26 (okC ok25 (okC ok22 (okC ok30 (okC ok31 (okC ok21 (okC ok32 okN)))))))) con6 goal6

end Go.Arcs

set_option linter.unusedVariables false
set_option linter.unusedSimpArgs false
namespace Go.Arcs
open Go Go.Ab Go.Proofs

noncomputable def con4 : Con := mkC 4 [.d I64, .d I64, .d I64] [.bool] (fun (p a b : Int) => []) (fun (p a b : Int) => (true, ()))
noncomputable def g4_c0 (x0 : Int) : Bool := !ieq (↑(List.length (pointsF x0).1) : Int) (wr IntKind.i64 (wr IntKind.i64 (wr IntKind.i64 (x0 * x0) + x0) + (1 : Int)))
noncomputable def g4_c1 (x0 x1 : Int) (d3 : Int × Int × Int × Unit) : Bool := bif !ieq (onFF x0 d3.2.2.1 (wr IntKind.i64 (Int.tmod (wr IntKind.u64 x1) (wr IntKind.u64 (↑(List.length (pointsF x0).1) : Int))))).2.1 (0 : Int) then true else !ieq (onFF x0 (wr IntKind.i64 (Int.tmod (wr IntKind.u64 x1) (wr IntKind.u64 (↑(List.length (pointsF x0).1) : Int)))) d3.2.2.1).2.1 (0 : Int)
noncomputable def g4_c2 (x0 x1 : Int) (d3 : Int × Int × Int × Unit) : Bool := !beqB (onFF x0 d3.2.2.1 (wr IntKind.i64 (Int.tmod (wr IntKind.u64 x1) (wr IntKind.u64 (↑(List.length (pointsF x0).1) : Int))))).1 (onFF x0 (wr IntKind.i64 (Int.tmod (wr IntKind.u64 x1) (wr IntKind.u64 (↑(List.length (pointsF x0).1) : Int)))) d3.2.2.1).1
noncomputable def g4_c3 (x0 : Int) (d3 : Int × Int × Int × Unit) : Int := (List.getD (pointsF x0).1 (Int.toNat d3.2.2.1) (((0 : Int), (0 : Int), (0 : Int), ()) : Int × Int × Int × Unit)).1
noncomputable def g4_c4 (x0 x1 : Int) : Int := (List.getD (pointsF x0).1 (Int.toNat (wr IntKind.i64 (Int.tmod (wr IntKind.u64 x1) (wr IntKind.u64 (↑(List.length (pointsF x0).1) : Int))))) (((0 : Int), (0 : Int), (0 : Int), ()) : Int × Int × Int × Unit)).1
noncomputable def g4_c5 (x0 : Int) (d3 : Int × Int × Int × Unit) : Int := (List.getD (pointsF x0).1 (Int.toNat d3.2.2.1) (((0 : Int), (0 : Int), (0 : Int), ()) : Int × Int × Int × Unit)).2.1
noncomputable def g4_c6 (x0 x1 : Int) : Int := (List.getD (pointsF x0).1 (Int.toNat (wr IntKind.i64 (Int.tmod (wr IntKind.u64 x1) (wr IntKind.u64 (↑(List.length (pointsF x0).1) : Int))))) (((0 : Int), (0 : Int), (0 : Int), ()) : Int × Int × Int × Unit)).2.1
noncomputable def g4_c7 (x0 : Int) (d3 : Int × Int × Int × Unit) : Int := (List.getD (pointsF x0).1 (Int.toNat d3.2.2.1) (((0 : Int), (0 : Int), (0 : Int), ()) : Int × Int × Int × Unit)).2.2.1
noncomputable def g4_c8 (x0 x1 : Int) : Int := (List.getD (pointsF x0).1 (Int.toNat (wr IntKind.i64 (Int.tmod (wr IntKind.u64 x1) (wr IntKind.u64 (↑(List.length (pointsF x0).1) : Int))))) (((0 : Int), (0 : Int), (0 : Int), ()) : Int × Int × Int × Unit)).2.2.1
noncomputable def g4_c9 (x0 x1 : Int) (d3 : Int × Int × Int × Unit) : Int := wr IntKind.i64 (wr IntKind.i64 (wr IntKind.i64 (g4_c3 x0 d3 * g4_c4 x0 x1) + wr IntKind.i64 (g4_c5 x0 d3 * g4_c6 x0 x1)) + wr IntKind.i64 (g4_c7 x0 d3 * g4_c8 x0 x1))
noncomputable def g4_c10 (x0 x1 : Int) (d3 : Int × Int × Int × Unit) : Bool := bif bif g4_c1 x0 x1 d3 then true else g4_c2 x0 x1 d3 then true else !beqB (onFF x0 d3.2.2.1 (wr IntKind.i64 (Int.tmod (wr IntKind.u64 x1) (wr IntKind.u64 (↑(List.length (pointsF x0).1) : Int))))).1 (ieq (Int.tmod (g4_c9 x0 x1 d3) x0) (0 : Int))
noncomputable def g4_c11 (x0 x1 x2 : Int) : Int := (joinF x0 (wr IntKind.i64 (Int.tmod (wr IntKind.u64 x1) (wr IntKind.u64 (↑(List.length (pointsF x0).1) : Int)))) (wr IntKind.i64 (Int.tmod (wr IntKind.u64 x2) (wr IntKind.u64 (↑(List.length (pointsF x0).1) : Int))))).1
noncomputable def g4_c12 (x0 x1 x2 : Int) : Int := (joinF x0 (wr IntKind.i64 (Int.tmod (wr IntKind.u64 x1) (wr IntKind.u64 (↑(List.length (pointsF x0).1) : Int)))) (wr IntKind.i64 (Int.tmod (wr IntKind.u64 x2) (wr IntKind.u64 (↑(List.length (pointsF x0).1) : Int))))).2.1
noncomputable def g4_c13 (x0 x1 x2 : Int) : Bool := bif bif ieq (g4_c12 x0 x1 x2) (0 : Int) then ieq (g4_c12 x0 x1 x2) (0 : Int) else false then ieq (onFF x0 (wr IntKind.i64 (Int.tmod (wr IntKind.u64 x1) (wr IntKind.u64 (↑(List.length (pointsF x0).1) : Int)))) (g4_c11 x0 x1 x2)).2.1 (0 : Int) else false
noncomputable def g4_c14 (x0 x1 x2 : Int) : Bool := bif bif g4_c13 x0 x1 x2 then ieq (onFF x0 (wr IntKind.i64 (Int.tmod (wr IntKind.u64 x2) (wr IntKind.u64 (↑(List.length (pointsF x0).1) : Int)))) (g4_c11 x0 x1 x2)).2.1 (0 : Int) else false then ieq (onFF x0 (g4_c11 x0 x1 x2) (wr IntKind.i64 (Int.tmod (wr IntKind.u64 x1) (wr IntKind.u64 (↑(List.length (pointsF x0).1) : Int))))).2.1 (0 : Int) else false
noncomputable def g4_c15 (x0 x1 x2 : Int) : Bool := bif bif g4_c14 x0 x1 x2 then ieq (onFF x0 (g4_c11 x0 x1 x2) (wr IntKind.i64 (Int.tmod (wr IntKind.u64 x2) (wr IntKind.u64 (↑(List.length (pointsF x0).1) : Int))))).2.1 (0 : Int) else false then (onFF x0 (wr IntKind.i64 (Int.tmod (wr IntKind.u64 x1) (wr IntKind.u64 (↑(List.length (pointsF x0).1) : Int)))) (g4_c11 x0 x1 x2)).1 else false
noncomputable def g4_c16 (x0 x1 x2 : Int) : Bool := bif bif g4_c15 x0 x1 x2 then (onFF x0 (wr IntKind.i64 (Int.tmod (wr IntKind.u64 x2) (wr IntKind.u64 (↑(List.length (pointsF x0).1) : Int)))) (g4_c11 x0 x1 x2)).1 else false then (onFF x0 (g4_c11 x0 x1 x2) (wr IntKind.i64 (Int.tmod (wr IntKind.u64 x1) (wr IntKind.u64 (↑(List.length (pointsF x0).1) : Int))))).1 else false
noncomputable def g4 (x0 x1 x2 : Int) : Option (Bool × Unit) := gd ((!!ieq (pointsF x0).2.1 (0 : Int)) = true → (!!ieq (pointsF x0).2.1 (0 : Int)) = true) (gd ((!!ieq (pointsF x0).2.1 (0 : Int)) = true → (!!ieq (pointsF x0).2.1 (0 : Int)) = true) (gd ((!ieq (pointsF x0).2.1 (0 : Int)) = false → (!!ieq (pointsF x0).2.1 (0 : Int)) = true) (bif bif !ieq (pointsF x0).2.1 (0 : Int) then true else !isPb x0 then gd (ieq (pointsF x0).2.1 (2 : Int) = true → ieq (pointsF x0).2.1 (2 : Int) = true) (some ((bif ieq (pointsF x0).2.1 (2 : Int) then true else false, ()) : Bool × Unit)) else bif g4_c0 x0 then some ((false, ()) : Bool × Unit) else gd (wr IntKind.u64 (↑(List.length (pointsF x0).1) : Int) ≠ (0 : Int)) (gd (wr IntKind.u64 (↑(List.length (pointsF x0).1) : Int) ≠ (0 : Int)) (whileO (fun (d3 : Int × Int × Int × Unit) => bif ilt d3.2.2.1 (↑(List.length (pointsF x0).1) : Int) then gd ((!!ieq (onFF x0 d3.2.2.1 (wr IntKind.i64 (Int.tmod (wr IntKind.u64 x1) (wr IntKind.u64 (↑(List.length (pointsF x0).1) : Int))))).2.1 (0 : Int)) = true → (!!ieq (onFF x0 d3.2.2.1 (wr IntKind.i64 (Int.tmod (wr IntKind.u64 x1) (wr IntKind.u64 (↑(List.length (pointsF x0).1) : Int))))).2.1 (0 : Int)) = true) (gd ((!ieq (onFF x0 d3.2.2.1 (wr IntKind.i64 (Int.tmod (wr IntKind.u64 x1) (wr IntKind.u64 (↑(List.length (pointsF x0).1) : Int))))).2.1 (0 : Int)) = false → (!!ieq (onFF x0 d3.2.2.1 (wr IntKind.i64 (Int.tmod (wr IntKind.u64 x1) (wr IntKind.u64 (↑(List.length (pointsF x0).1) : Int))))).2.1 (0 : Int)) = true) (gd ((!g4_c1 x0 x1 d3) = true → (!g4_c1 x0 x1 d3) = true ∧ (!g4_c1 x0 x1 d3) = true) (gd (g4_c1 x0 x1 d3 = false → (!g4_c1 x0 x1 d3) = true) (gd ((!bif g4_c1 x0 x1 d3 then true else g4_c2 x0 x1 d3) = true → (!bif g4_c1 x0 x1 d3 then true else g4_c2 x0 x1 d3) = true ∧ (!bif g4_c1 x0 x1 d3 then true else g4_c2 x0 x1 d3) = true ∧ (0 : Int) ≤ d3.2.2.1 ∧ d3.2.2.1 < (↑(List.length (pointsF x0).1) : Int)) (gd ((!bif g4_c1 x0 x1 d3 then true else g4_c2 x0 x1 d3) = true → (!bif g4_c1 x0 x1 d3 then true else g4_c2 x0 x1 d3) = true) (gd ((!bif g4_c1 x0 x1 d3 then true else g4_c2 x0 x1 d3) = true → (!bif g4_c1 x0 x1 d3 then true else g4_c2 x0 x1 d3) = true) (gd ((!bif g4_c1 x0 x1 d3 then true else g4_c2 x0 x1 d3) = true → (!bif g4_c1 x0 x1 d3 then true else g4_c2 x0 x1 d3) = true ∧ (!bif g4_c1 x0 x1 d3 then true else g4_c2 x0 x1 d3) = true ∧ (0 : Int) ≤ wr IntKind.i64 (Int.tmod (wr IntKind.u64 x1) (wr IntKind.u64 (↑(List.length (pointsF x0).1) : Int))) ∧ wr IntKind.i64 (Int.tmod (wr IntKind.u64 x1) (wr IntKind.u64 (↑(List.length (pointsF x0).1) : Int))) < (↑(List.length (pointsF x0).1) : Int)) (gd ((!bif g4_c1 x0 x1 d3 then true else g4_c2 x0 x1 d3) = true → (!bif g4_c1 x0 x1 d3 then true else g4_c2 x0 x1 d3) = true) (gd ((!bif g4_c1 x0 x1 d3 then true else g4_c2 x0 x1 d3) = true → (!bif g4_c1 x0 x1 d3 then true else g4_c2 x0 x1 d3) = true) (gd ((!bif g4_c1 x0 x1 d3 then true else g4_c2 x0 x1 d3) = true → (!bif g4_c1 x0 x1 d3 then true else g4_c2 x0 x1 d3) = true ∧ (!bif g4_c1 x0 x1 d3 then true else g4_c2 x0 x1 d3) = true) (gd ((!bif g4_c1 x0 x1 d3 then true else g4_c2 x0 x1 d3) = true → (!bif g4_c1 x0 x1 d3 then true else g4_c2 x0 x1 d3) = true ∧ (!bif g4_c1 x0 x1 d3 then true else g4_c2 x0 x1 d3) = true ∧ (0 : Int) ≤ d3.2.2.1 ∧ d3.2.2.1 < (↑(List.length (pointsF x0).1) : Int)) (gd ((!bif g4_c1 x0 x1 d3 then true else g4_c2 x0 x1 d3) = true → (!bif g4_c1 x0 x1 d3 then true else g4_c2 x0 x1 d3) = true) (gd ((!bif g4_c1 x0 x1 d3 then true else g4_c2 x0 x1 d3) = true → (!bif g4_c1 x0 x1 d3 then true else g4_c2 x0 x1 d3) = true) (gd ((!bif g4_c1 x0 x1 d3 then true else g4_c2 x0 x1 d3) = true → (!bif g4_c1 x0 x1 d3 then true else g4_c2 x0 x1 d3) = true ∧ (!bif g4_c1 x0 x1 d3 then true else g4_c2 x0 x1 d3) = true ∧ (0 : Int) ≤ wr IntKind.i64 (Int.tmod (wr IntKind.u64 x1) (wr IntKind.u64 (↑(List.length (pointsF x0).1) : Int))) ∧ wr IntKind.i64 (Int.tmod (wr IntKind.u64 x1) (wr IntKind.u64 (↑(List.length (pointsF x0).1) : Int))) < (↑(List.length (pointsF x0).1) : Int)) (gd ((!bif g4_c1 x0 x1 d3 then true else g4_c2 x0 x1 d3) = true → (!bif g4_c1 x0 x1 d3 then true else g4_c2 x0 x1 d3) = true) (gd ((!bif g4_c1 x0 x1 d3 then true else g4_c2 x0 x1 d3) = true → (!bif g4_c1 x0 x1 d3 then true else g4_c2 x0 x1 d3) = true) (gd ((!bif g4_c1 x0 x1 d3 then true else g4_c2 x0 x1 d3) = true → (!bif g4_c1 x0 x1 d3 then true else g4_c2 x0 x1 d3) = true ∧ (!bif g4_c1 x0 x1 d3 then true else g4_c2 x0 x1 d3) = true) (gd ((!bif g4_c1 x0 x1 d3 then true else g4_c2 x0 x1 d3) = true → (!bif g4_c1 x0 x1 d3 then true else g4_c2 x0 x1 d3) = true ∧ (!bif g4_c1 x0 x1 d3 then true else g4_c2 x0 x1 d3) = true) (gd ((!bif g4_c1 x0 x1 d3 then true else g4_c2 x0 x1 d3) = true → (!bif g4_c1 x0 x1 d3 then true else g4_c2 x0 x1 d3) = true ∧ (!bif g4_c1 x0 x1 d3 then true else g4_c2 x0 x1 d3) = true ∧ (0 : Int) ≤ d3.2.2.1 ∧ d3.2.2.1 < (↑(List.length (pointsF x0).1) : Int)) (gd ((!bif g4_c1 x0 x1 d3 then true else g4_c2 x0 x1 d3) = true → (!bif g4_c1 x0 x1 d3 then true else g4_c2 x0 x1 d3) = true) (gd ((!bif g4_c1 x0 x1 d3 then true else g4_c2 x0 x1 d3) = true → (!bif g4_c1 x0 x1 d3 then true else g4_c2 x0 x1 d3) = true) (gd ((!bif g4_c1 x0 x1 d3 then true else g4_c2 x0 x1 d3) = true → (!bif g4_c1 x0 x1 d3 then true else g4_c2 x0 x1 d3) = true ∧ (!bif g4_c1 x0 x1 d3 then true else g4_c2 x0 x1 d3) = true ∧ (0 : Int) ≤ wr IntKind.i64 (Int.tmod (wr IntKind.u64 x1) (wr IntKind.u64 (↑(List.length (pointsF x0).1) : Int))) ∧ wr IntKind.i64 (Int.tmod (wr IntKind.u64 x1) (wr IntKind.u64 (↑(List.length (pointsF x0).1) : Int))) < (↑(List.length (pointsF x0).1) : Int)) (gd ((!bif g4_c1 x0 x1 d3 then true else g4_c2 x0 x1 d3) = true → (!bif g4_c1 x0 x1 d3 then true else g4_c2 x0 x1 d3) = true) (gd ((!bif g4_c1 x0 x1 d3 then true else g4_c2 x0 x1 d3) = true → (!bif g4_c1 x0 x1 d3 then true else g4_c2 x0 x1 d3) = true) (gd ((!bif g4_c1 x0 x1 d3 then true else g4_c2 x0 x1 d3) = true → (!bif g4_c1 x0 x1 d3 then true else g4_c2 x0 x1 d3) = true ∧ (!bif g4_c1 x0 x1 d3 then true else g4_c2 x0 x1 d3) = true) (gd ((!bif g4_c1 x0 x1 d3 then true else g4_c2 x0 x1 d3) = true → (!bif g4_c1 x0 x1 d3 then true else g4_c2 x0 x1 d3) = true ∧ (!bif g4_c1 x0 x1 d3 then true else g4_c2 x0 x1 d3) = true) (gd ((!bif g4_c1 x0 x1 d3 then true else g4_c2 x0 x1 d3) = true → (!bif g4_c1 x0 x1 d3 then true else g4_c2 x0 x1 d3) = true ∧ (!bif g4_c1 x0 x1 d3 then true else g4_c2 x0 x1 d3) = true ∧ x0 ≠ (0 : Int)) (gd ((!bif g4_c1 x0 x1 d3 then true else g4_c2 x0 x1 d3) = true → (!bif g4_c1 x0 x1 d3 then true else g4_c2 x0 x1 d3) = true) (gd ((!bif g4_c1 x0 x1 d3 then true else g4_c2 x0 x1 d3) = true → (!bif g4_c1 x0 x1 d3 then true else g4_c2 x0 x1 d3) = true ∧ (!bif g4_c1 x0 x1 d3 then true else g4_c2 x0 x1 d3) = true) (gd ((bif g4_c1 x0 x1 d3 then true else g4_c2 x0 x1 d3) = false → (!bif g4_c1 x0 x1 d3 then true else g4_c2 x0 x1 d3) = true) (bif g4_c10 x0 x1 d3 then some (Lp.out ((false, ()) : Bool × Unit)) else bif (onFF x0 d3.2.2.1 (wr IntKind.i64 (Int.tmod (wr IntKind.u64 x1) (wr IntKind.u64 (↑(List.length (pointsF x0).1) : Int))))).1 then bif (onFF x0 (wr IntKind.i64 (Int.tmod (wr IntKind.u64 x1) (wr IntKind.u64 (↑(List.length (pointsF x0).1) : Int)))) d3.2.2.1).1 then some (Lp.go ((wr IntKind.i64 (d3.1 + (1 : Int)), wr IntKind.i64 (d3.2.1 + (1 : Int)), wr IntKind.i64 (d3.2.2.1 + (1 : Int)), ()) : Int × Int × Int × Unit)) else some (Lp.go ((wr IntKind.i64 (d3.1 + (1 : Int)), d3.2.1, wr IntKind.i64 (d3.2.2.1 + (1 : Int)), ()) : Int × Int × Int × Unit)) else bif (onFF x0 (wr IntKind.i64 (Int.tmod (wr IntKind.u64 x1) (wr IntKind.u64 (↑(List.length (pointsF x0).1) : Int)))) d3.2.2.1).1 then some (Lp.go ((d3.1, wr IntKind.i64 (d3.2.1 + (1 : Int)), wr IntKind.i64 (d3.2.2.1 + (1 : Int)), ()) : Int × Int × Int × Unit)) else some (Lp.go ((d3.1, d3.2.1, wr IntKind.i64 (d3.2.2.1 + (1 : Int)), ()) : Int × Int × Int × Unit))))))))))))))))))))))))))))))))) else gd ((!!ieq d3.1 (wr IntKind.i64 (x0 + (1 : Int)))) = true → (!!ieq d3.1 (wr IntKind.i64 (x0 + (1 : Int)))) = true) (gd ((!!ieq d3.1 (wr IntKind.i64 (x0 + (1 : Int)))) = true → (!!ieq d3.1 (wr IntKind.i64 (x0 + (1 : Int)))) = true ∧ (!!ieq d3.1 (wr IntKind.i64 (x0 + (1 : Int)))) = true) (gd ((!ieq d3.1 (wr IntKind.i64 (x0 + (1 : Int)))) = false → (!!ieq d3.1 (wr IntKind.i64 (x0 + (1 : Int)))) = true) (bif bif !ieq d3.1 (wr IntKind.i64 (x0 + (1 : Int))) then true else !ieq d3.2.1 (wr IntKind.i64 (x0 + (1 : Int))) then some (Lp.out ((false, ()) : Bool × Unit)) else bif ieq (wr IntKind.i64 (Int.tmod (wr IntKind.u64 x1) (wr IntKind.u64 (↑(List.length (pointsF x0).1) : Int)))) (wr IntKind.i64 (Int.tmod (wr IntKind.u64 x2) (wr IntKind.u64 (↑(List.length (pointsF x0).1) : Int)))) then some (Lp.out ((true, ()) : Bool × Unit)) else gd (ieq (g4_c12 x0 x1 x2) (0 : Int) = true → ieq (g4_c12 x0 x1 x2) (0 : Int) = true) (gd (ieq (g4_c12 x0 x1 x2) (0 : Int) = true → ieq (g4_c12 x0 x1 x2) (0 : Int) = true) (gd ((bif ieq (g4_c12 x0 x1 x2) (0 : Int) then ieq (g4_c12 x0 x1 x2) (0 : Int) else false) = true → (bif ieq (g4_c12 x0 x1 x2) (0 : Int) then ieq (g4_c12 x0 x1 x2) (0 : Int) else false) = true) (gd ((bif ieq (g4_c12 x0 x1 x2) (0 : Int) then ieq (g4_c12 x0 x1 x2) (0 : Int) else false) = true → (bif ieq (g4_c12 x0 x1 x2) (0 : Int) then ieq (g4_c12 x0 x1 x2) (0 : Int) else false) = true) (gd (g4_c13 x0 x1 x2 = true → g4_c13 x0 x1 x2 = true) (gd (g4_c13 x0 x1 x2 = true → g4_c13 x0 x1 x2 = true) (gd ((bif g4_c13 x0 x1 x2 then ieq (onFF x0 (wr IntKind.i64 (Int.tmod (wr IntKind.u64 x2) (wr IntKind.u64 (↑(List.length (pointsF x0).1) : Int)))) (g4_c11 x0 x1 x2)).2.1 (0 : Int) else false) = true → (bif g4_c13 x0 x1 x2 then ieq (onFF x0 (wr IntKind.i64 (Int.tmod (wr IntKind.u64 x2) (wr IntKind.u64 (↑(List.length (pointsF x0).1) : Int)))) (g4_c11 x0 x1 x2)).2.1 (0 : Int) else false) = true) (gd ((bif g4_c13 x0 x1 x2 then ieq (onFF x0 (wr IntKind.i64 (Int.tmod (wr IntKind.u64 x2) (wr IntKind.u64 (↑(List.length (pointsF x0).1) : Int)))) (g4_c11 x0 x1 x2)).2.1 (0 : Int) else false) = true → (bif g4_c13 x0 x1 x2 then ieq (onFF x0 (wr IntKind.i64 (Int.tmod (wr IntKind.u64 x2) (wr IntKind.u64 (↑(List.length (pointsF x0).1) : Int)))) (g4_c11 x0 x1 x2)).2.1 (0 : Int) else false) = true) (gd (g4_c14 x0 x1 x2 = true → g4_c14 x0 x1 x2 = true) (gd (g4_c14 x0 x1 x2 = true → g4_c14 x0 x1 x2 = true) (gd ((bif g4_c14 x0 x1 x2 then ieq (onFF x0 (g4_c11 x0 x1 x2) (wr IntKind.i64 (Int.tmod (wr IntKind.u64 x2) (wr IntKind.u64 (↑(List.length (pointsF x0).1) : Int))))).2.1 (0 : Int) else false) = true → (bif g4_c14 x0 x1 x2 then ieq (onFF x0 (g4_c11 x0 x1 x2) (wr IntKind.i64 (Int.tmod (wr IntKind.u64 x2) (wr IntKind.u64 (↑(List.length (pointsF x0).1) : Int))))).2.1 (0 : Int) else false) = true) (gd (g4_c15 x0 x1 x2 = true → g4_c15 x0 x1 x2 = true) (gd ((bif g4_c15 x0 x1 x2 then (onFF x0 (wr IntKind.i64 (Int.tmod (wr IntKind.u64 x2) (wr IntKind.u64 (↑(List.length (pointsF x0).1) : Int)))) (g4_c11 x0 x1 x2)).1 else false) = true → (bif g4_c15 x0 x1 x2 then (onFF x0 (wr IntKind.i64 (Int.tmod (wr IntKind.u64 x2) (wr IntKind.u64 (↑(List.length (pointsF x0).1) : Int)))) (g4_c11 x0 x1 x2)).1 else false) = true) (gd (g4_c16 x0 x1 x2 = true → g4_c16 x0 x1 x2 = true) (gd ((bif g4_c16 x0 x1 x2 then (onFF x0 (g4_c11 x0 x1 x2) (wr IntKind.i64 (Int.tmod (wr IntKind.u64 x2) (wr IntKind.u64 (↑(List.length (pointsF x0).1) : Int))))).1 else false) = true → (bif g4_c16 x0 x1 x2 then (onFF x0 (g4_c11 x0 x1 x2) (wr IntKind.i64 (Int.tmod (wr IntKind.u64 x2) (wr IntKind.u64 (↑(List.length (pointsF x0).1) : Int))))).1 else false) = true) (some (Lp.out ((bif bif g4_c16 x0 x1 x2 then (onFF x0 (g4_c11 x0 x1 x2) (wr IntKind.i64 (Int.tmod (wr IntKind.u64 x2) (wr IntKind.u64 (↑(List.length (pointsF x0).1) : Int))))).1 else false then true else false, ()) : Bool × Unit))))))))))))))))))))) (((0 : Int), (0 : Int), (0 : Int), ()) : Int × Int × Int × Unit))))))
noncomputable def g4_sh : List LSh := LSh.mk (((9, TV.v (Ty.int IntKind.i64)) : Nat × TV) :: ((10, TV.v (Ty.int IntKind.i64)) : Nat × TV) :: ((69, TV.v (Ty.int IntKind.i64)) : Nat × TV) :: ([] : List (Nat × TV))) ([] : List TB) :: ([] : List LSh)



theorem wr_u64 {n : Int} : 0 ≤ wr .u64 n ∧ wr .u64 n < 18446744073709551616 := by
  show 0 ≤ IntKind.u64.wrap n ∧ IntKind.u64.wrap n < _
  rw [IntKind.wrap_u64]; omega
theorem wr_u64_id {n : Int} (h : 0 ≤ n ∧ n < 18446744073709551616) : wr .u64 n = n := by
  show IntKind.u64.wrap n = n
  rw [IntKind.wrap_u64]; omega

/-- The remainder, taken as an unsigned number, is a place. -/
theorem umod {a s : Int} (hs : 0 < s ∧ s ≤ 1000) : 0 ≤ wr .i64 (Int.tmod (wr .u64 a) (wr .u64 s)) ∧ wr .i64 (Int.tmod (wr .u64 a) (wr .u64 s)) < s := by
  rw [wr_u64_id (n := s) (by omega)]
  have h := wr_u64 (n := a)
  have h1 := Int.lt_tmod_of_pos (wr .u64 a) hs.1
  have h2 := Int.tmod_lt_of_pos (wr .u64 a) hs.1
  have h3 := Int.tmod_eq_emod_of_nonneg (b := s) h.1
  have h4 := Int.emod_nonneg (wr .u64 a) (show s ≠ 0 by omega)
  rw [wr_id (by omega)]
  omega

theorem dotC_comm {p : Int} {x y : TripD} : dotC p x y = dotC p y x := by
  simp only [dotC, Int.mul_comm]
theorem onF_comm {p a b : Int} : onF p a b = onF p b a := by rw [onF, onF, dotC_comm]

theorem dot_wr {p : Int} {x y : TripD} (hp : isP p) (hx : inR p x) (hy : inR p y) : Int.tmod (wr .i64 (wr .i64 (wr .i64 (x.1 * y.1) + wr .i64 (x.2.1 * y.2.1)) + wr .i64 (x.2.2.1 * y.2.2.1))) p = dotC p x y := by
  have hb := isP_bd hp
  obtain ⟨x1, x2, x3, _⟩ := x
  obtain ⟨y1, y2, y3, _⟩ := y
  obtain ⟨h1, h2, h3⟩ := hx
  obtain ⟨g1, g2, g3⟩ := hy
  simp only at h1 h2 h3 g1 g2 g3 ⊢
  have b1 := mul_bd (c := 6) (a := x1) (b := y1) (by omega) (by omega)
  have b2 := mul_bd (c := 6) (a := x2) (b := y2) (by omega) (by omega)
  have b3 := mul_bd (c := 6) (a := x3) (b := y3) (by omega) (by omega)
  simp (disch := omega) only [wr_id, dotC]
  rw [Int.tmod_eq_emod_of_nonneg (by omega)]

theorem line_tab : ∀ p ∈ ([2, 3, 5, 7] : List Int), ∀ y ∈ ptsC p, (((ptsC p).countP fun x => ieq (dotC p x y) 0 : Nat) : Int) = p + 1 := by decide +kernel

/-- A point on both. -/
theorem ixA_spec {α : Type} {q : α → Bool} : ∀ {l : List α} {i : Int}, (∃ x ∈ l, q x = true) → ∃ k : Nat, ∃ h : k < l.length, ixA q l i = i + k ∧ q l[k] = true
  | [], i, h => by obtain ⟨x, hx, _⟩ := h; cases hx
  | x :: l, i, h => by
    by_cases hx : q x = true
    · exact ⟨0, by simp, by simp [ixA, hx], hx⟩
    · obtain ⟨y, hy, hq⟩ := h
      rcases List.mem_cons.1 hy with rfl | hy
      · exact absurd hq hx
      · obtain ⟨k, h1, h2, h3⟩ := ixA_spec (i := i + 1) ⟨y, hy, hq⟩
        refine ⟨k + 1, by simp; omega, ?_, h3⟩
        rw [ixA, if_neg hx, h2]
        push_cast
        omega

theorem both_tab : ∀ p ∈ ([2, 3, 5, 7] : List Int), ∀ x ∈ ptsC p, ∀ y ∈ ptsC p, ((ptsC p).any (bothF p x y)) = true := by decide +kernel

theorem join_on {p a b : Int} (hp : isP p) (ha : inPt p a = true) (hb : inPt p b = true) (hab : a ≠ b) : inPt p (thrF p a b) = true ∧ onF p a (thrF p a b) = true ∧ onF p b (thrF p a b) = true := by
  have h := both_tab p (isP_mem hp) _ (pt_mem hp ha) _ (pt_mem hp hb)
  rw [List.any_eq_true] at h
  obtain ⟨k, h1, h2, h3⟩ := ixA_spec (i := 0) h
  have hl := pts_len p (isP_mem hp)
  rw [thr_join hp ha hb hab, joinR, h2]
  have hin : inPt p (0 + (k : Int)) = true := inPt_iff.2 ⟨by omega, by omega⟩
  obtain ⟨h4, h5⟩ := pt_at hp hin
  have hk : (0 + (k : Int)).toNat = k := by omega
  simp only [hk] at h5
  simp only [bothF, Bool.and_eq_true] at h3
  rw [← h5] at h3
  exact ⟨hin, h3⟩

def cntO (p A : Int) (k : Nat) : Int := (((ptsC p).take k).countP fun x => ieq (dotC p x (pt p A)) 0 : Nat)

theorem goal4 : con4.goal Try.prog (spOf [con24, con25, con22, con26, con19, con20]) g4_sh [] lm30 := by
  have e : (∀ (p a b : Int), g4 p a b = some (true, ())) = con4.goal Try.prog (spOf [con24, con25, con22, con26, con19, con20]) g4_sh [] lm30 := by kernel_rfl
  rw [← e]
  intro p a b
  by_cases hp : isPb p = true
  · have hP := isPb_iff.1 hp
    have hpf : pointsF p = (ptsC p, 0, ()) := by simp [pointsF, hp]
    have hl := pts_len p (isP_mem hP)
    have h57 : 7 ≤ p * p + p + 1 ∧ p * p + p + 1 ≤ 57 := by rcases hP with rfl | rfl | rfl | rfl <;> decide
    have hbd := isP_bd hP
    have hsz : wr .i64 (wr .i64 (wr .i64 (p * p) + p) + 1) = p * p + p + 1 := by
      rcases hP with rfl | rfl | rfl | rfl <;> decide
    have hA0 := umod (a := a) (s := p * p + p + 1) (by omega)
    have hB0 := umod (a := b) (s := p * p + p + 1) (by omega)
    generalize hAe : wr .i64 (Int.tmod (wr .u64 a) (wr .u64 (p * p + p + 1))) = A at hA0
    generalize hBe : wr .i64 (Int.tmod (wr .u64 b) (wr .u64 (p * p + p + 1))) = B at hB0
    have hA : inPt p A = true := inPt_iff.2 hA0
    have hB : inPt p B = true := inPt_iff.2 hB0
    have c0 : g4_c0 p = false := by simp [g4_c0, hpf, hsz, hl, ieq]
    have hu64 : wr .u64 (p * p + p + 1) ≠ 0 := by rw [wr_u64_id (by omega)]; omega
    have hon : ∀ x y, inPt p x = true → inPt p y = true → onFF p x y = (onF p x y, 0, ()) := fun x y hx hy => by simp [onFF, hp, hx, hy]
    have hpw : wr .i64 (p + 1) = p + 1 := wr_id (by omega)
    unfold g4
    simp only [hpf, hl, c0, hAe, hBe, gd_pos hu64, hp, ieq_d, decide_true, Bool.not_true, Bool.not_false, imp_self, and_self, gd_true, cond_false, cond_true, implies_true, Bool.false_eq_true, false_imp_iff, hpw]
    refine whileO_rec (fun (d : Int × Int × Int × Unit) => 0 ≤ d.2.2.1 ∧ d.2.2.1 ≤ p * p + p + 1 ∧ d.1 = cntO p A d.2.2.1.toNat ∧ d.2.1 = cntO p A d.2.2.1.toNat ∧ 0 ≤ d.1 ∧ d.1 ≤ 57) (fun (d : Int × Int × Int × Unit) => (p * p + p + 1 - d.2.2.1).toNat) (fun _ => (true, ())) ?_ ((0 : Int), (0 : Int), (0 : Int), ()) ⟨by simp only; omega, by simp only; omega, rfl, rfl, by simp only; omega, by simp only; omega⟩
    rintro ⟨n, m, x, _⟩ ⟨hx0, hx1, hn, hm, hn0, hn57⟩
    simp only at hx0 hx1 hn hm hn0 hn57 ⊢
    have hmn : m = n := by rw [hm, hn]
    subst hmn
    clear hm
    by_cases hx : x < p * p + p + 1
    · right
      have hX : inPt p x = true := inPt_iff.2 ⟨hx0, hx⟩
      obtain ⟨hlt, hpt⟩ := pt_at hP hX
      have ht : (x + 1).toNat = x.toNat + 1 := by omega
      have c1 : g4_c1 p a (m, m, x, ()) = false := by simp [g4_c1, hpf, hl, hAe, hon _ _ hX hA, hon _ _ hA hX, ieq]
      have c2 : g4_c2 p a (m, m, x, ()) = false := by simp [g4_c2, hpf, hl, hAe, hon _ _ hX hA, hon _ _ hA hX, beqB, onF_comm (a := A) (b := x)]
      have c9 : Int.tmod (g4_c9 p a (m, m, x, ())) p = dotC p (pt p x) (pt p A) := by
        rw [← dot_wr hP (pt_in hP hX) (pt_in hP hA)]
        simp only [g4_c9, g4_c3, g4_c4, g4_c5, g4_c6, g4_c7, g4_c8, hpf, hl, hAe, pt]
      have c10 : g4_c10 p a (m, m, x, ()) = false := by
        simp only [g4_c10, c1, c2, c9, hpf, hl, hAe, hon _ _ hX hA, cond_false]
        simp [beqB, onF]
      have hcnt : cntO p A (x + 1).toNat = cntO p A x.toNat + (if onF p x A = true then 1 else 0) := by
        unfold cntO
        rw [ht, List.take_add_one, List.getElem?_eq_getElem hlt, List.countP_append, onF, hpt]
        by_cases hq : ieq (dotC p (ptsC p)[x.toNat] (pt p A)) 0 = true <;> simp [hq]
      have hcle : cntO p A (x + 1).toNat ≤ 57 := by
        have h1 : ((ptsC p).take (x + 1).toNat).countP (fun x => ieq (dotC p x (pt p A)) 0) ≤ ((ptsC p).take (x + 1).toNat).length := List.countP_le_length
        rw [List.length_take] at h1
        unfold cntO
        omega
      have w1 : wr .i64 (m + 1) = m + 1 := wr_id (by omega)
      have w2 : wr .i64 (x + 1) = x + 1 := wr_id (by omega)
      refine ⟨((cntO p A (x + 1).toNat, cntO p A (x + 1).toNat, x + 1, ()) : Int × Int × Int × Unit), ?_, ⟨by simp only; omega, by simp only; omega, rfl, rfl, ?_, hcle⟩, by simp only; omega, trivial⟩
      · rw [cond_t (ilt_iff.2 hx)]
        simp only [c1, c2, c10, hon _ _ hX hA, hon _ _ hA hX, onF_comm (a := A) (b := x), hX, hA, hx0, hx, hA0, hP, decide_true, Bool.not_true, Bool.not_false, imp_self, and_self, gd_true, cond_false, cond_true, implies_true, Bool.false_eq_true, false_imp_iff, w1, w2, hcnt, ← hn, true_and, and_true, show p ≠ 0 by omega, ne_eq, not_false_iff]
        by_cases hq : onF p x A = true <;> simp [hq]
      · simp only
        unfold cntO
        omega
    · left
      have hxe : x.toNat = (ptsC p).length := by omega
      have hn' : m = p + 1 := by
        rw [hn, cntO, hxe, List.take_length]
        exact line_tab p (isP_mem hP) _ (pt_mem hP hA)
      rw [cond_f (ilt_false.2 (by omega))]
      by_cases hab : A = B
      · simp [hn', hab, gd_true]
      · have hj := join_on hP hA hB hab
        have hjF : joinF p A B = (thrF p A B, 0, ()) := by simp [joinF, hp, hA, hB, hab]
        have c11 : g4_c11 p a b = thrF p A B := by simp [g4_c11, hpf, hl, hAe, hBe, hjF]
        have c12 : g4_c12 p a b = 0 := by simp [g4_c12, hpf, hl, hAe, hBe, hjF]
        have o1 := hon _ _ hA hj.1
        have o2 := hon _ _ hB hj.1
        have o3 := hon _ _ hj.1 hA
        have o4 := hon _ _ hj.1 hB
        have q3 : onF p (thrF p A B) A = true := by rw [onF_comm]; exact hj.2.1
        have q4 : onF p (thrF p A B) B = true := by rw [onF_comm]; exact hj.2.2
        have c13 : g4_c13 p a b = true := by simp [g4_c13, c11, c12, hpf, hl, hAe, hBe, o1, ieq_d]
        have c14 : g4_c14 p a b = true := by simp [g4_c14, c13, c11, hpf, hl, hAe, hBe, o2, o3, ieq_d]
        have c15 : g4_c15 p a b = true := by simp [g4_c15, c14, c11, hpf, hl, hAe, hBe, o1, o4, ieq_d, hj.2.1]
        have c16 : g4_c16 p a b = true := by simp [g4_c16, c15, c11, hpf, hl, hAe, hBe, o2, o3, hj.2.2, q3]
        simp [hn', hab, gd_true, c11, c12, c13, c14, c15, c16, o1, o2, o3, o4, q3, q4, hj.2.1, hj.2.2]
  · simp [g4, pointsF, hp, gd_true, ieq_d]
set_option maxRecDepth 100000 in
theorem ok4 : con4.Ok Try.prog := Con.of_goal mixed (okC ok24 (okC ok25 (okC ok22 (okC ok26 (okC ok19 (okC ok20 okN)))))) con4 goal4

end Go.Arcs
