/- Points and On; the laws ArcsPoints and ArcsPlane as contracts. -/
import Derived.Test.YtffapeomfjfedaaA8
set_option linter.unusedVariables false
set_option linter.unusedSimpArgs false
namespace Go.Arcs
open Go Go.Ab Go.Proofs

def pointsF (p : Int) : List TripD × Int × Unit := if isPb p = true then (ptsC p, 0, ()) else ([], 2, ())
noncomputable def con24 : Con := mkC 24 [.d I64] [.slice Trip, I64] (fun (p : Int) => []) (fun (p : Int) => pointsF p)
noncomputable def g24 (x0 : Int) : Option (List (Int × Int × Int × Unit) × Int × Unit) := gd (small ([] : List Int)) (bif !(readF x0 ([] : List Int)).2.1 then some ((([] : List (Int × Int × Int × Unit)), (2 : Int), ()) : List (Int × Int × Int × Unit) × Int × Unit) else gd (Option.isSome (readF x0 ([] : List Int)).1 = true) (gd ((0 : Nat) = (0 : Nat)) (whileO (fun (d1 : Int × List (Int × Int × Int × Unit) × Unit) => bif ilt d1.1 (↑(List.length (Option.getD (readF x0 ([] : List Int)).1 (((0 : Int), ([] : List (Int × Int × Int × Unit)), ([] : List ((Int × Int × Int × Unit) × Int)), ()) : Int × List (Int × Int × Int × Unit) × List ((Int × Int × Int × Unit) × Int) × Unit)).2.1) : Int) then gd ((0 : Int) ≤ d1.1 ∧ d1.1 < (↑(List.length (Option.getD (readF x0 ([] : List Int)).1 (((0 : Int), ([] : List (Int × Int × Int × Unit)), ([] : List ((Int × Int × Int × Unit) × Int)), ()) : Int × List (Int × Int × Int × Unit) × List ((Int × Int × Int × Unit) × Int) × Unit)).2.1) : Int)) (gd ((3 : Nat) ≤ (3 : Nat)) (gd ((3 : Nat) ≤ (3 : Nat)) (gd (List.length d1.2.1 ≤ List.length d1.2.1) (gd ((List.length d1.2.1 + (1 : Nat)) * (24 : Nat) ≤ (1099511627776 : Nat)) (gd (List.length d1.2.1 + (1 : Nat) = List.length (List.take (List.length d1.2.1) d1.2.1 ++ (((List.getD (Option.getD (readF x0 ([] : List Int)).1 (((0 : Int), ([] : List (Int × Int × Int × Unit)), ([] : List ((Int × Int × Int × Unit) × Int)), ()) : Int × List (Int × Int × Int × Unit) × List ((Int × Int × Int × Unit) × Int) × Unit)).2.1 (Int.toNat d1.1) (((0 : Int), (0 : Int), (0 : Int), ()) : Int × Int × Int × Unit)).1, (List.getD (Option.getD (readF x0 ([] : List Int)).1 (((0 : Int), ([] : List (Int × Int × Int × Unit)), ([] : List ((Int × Int × Int × Unit) × Int)), ()) : Int × List (Int × Int × Int × Unit) × List ((Int × Int × Int × Unit) × Int) × Unit)).2.1 (Int.toNat d1.1) (((0 : Int), (0 : Int), (0 : Int), ()) : Int × Int × Int × Unit)).2.1, (List.getD (Option.getD (readF x0 ([] : List Int)).1 (((0 : Int), ([] : List (Int × Int × Int × Unit)), ([] : List ((Int × Int × Int × Unit) × Int)), ()) : Int × List (Int × Int × Int × Unit) × List ((Int × Int × Int × Unit) × Int) × Unit)).2.1 (Int.toNat d1.1) (((0 : Int), (0 : Int), (0 : Int), ()) : Int × Int × Int × Unit)).2.2.1, ()) : Int × Int × Int × Unit) :: ([] : List (Int × Int × Int × Unit)))) (some (Lp.go ((wr IntKind.i64 (d1.1 + (1 : Int)), List.take (List.length d1.2.1) d1.2.1 ++ (((List.getD (Option.getD (readF x0 ([] : List Int)).1 (((0 : Int), ([] : List (Int × Int × Int × Unit)), ([] : List ((Int × Int × Int × Unit) × Int)), ()) : Int × List (Int × Int × Int × Unit) × List ((Int × Int × Int × Unit) × Int) × Unit)).2.1 (Int.toNat d1.1) (((0 : Int), (0 : Int), (0 : Int), ()) : Int × Int × Int × Unit)).1, (List.getD (Option.getD (readF x0 ([] : List Int)).1 (((0 : Int), ([] : List (Int × Int × Int × Unit)), ([] : List ((Int × Int × Int × Unit) × Int)), ()) : Int × List (Int × Int × Int × Unit) × List ((Int × Int × Int × Unit) × Int) × Unit)).2.1 (Int.toNat d1.1) (((0 : Int), (0 : Int), (0 : Int), ()) : Int × Int × Int × Unit)).2.1, (List.getD (Option.getD (readF x0 ([] : List Int)).1 (((0 : Int), ([] : List (Int × Int × Int × Unit)), ([] : List ((Int × Int × Int × Unit) × Int)), ()) : Int × List (Int × Int × Int × Unit) × List ((Int × Int × Int × Unit) × Int) × Unit)).2.1 (Int.toNat d1.1) (((0 : Int), (0 : Int), (0 : Int), ()) : Int × Int × Int × Unit)).2.2.1, ()) : Int × Int × Int × Unit) :: ([] : List (Int × Int × Int × Unit)), ()) : Int × List (Int × Int × Int × Unit) × Unit)))))))) else gd ((0 : Nat) + List.length d1.2.1 ≤ List.length d1.2.1) (some (Lp.out ((List.take (List.length d1.2.1) (List.drop (0 : Nat) d1.2.1), (0 : Int), ()) : List (Int × Int × Int × Unit) × Int × Unit)))) (((0 : Int), ([] : List (Int × Int × Int × Unit)), ()) : Int × List (Int × Int × Int × Unit) × Unit))))
noncomputable def g24_sh : List LSh := LSh.mk (((6, TV.slf (0) (3)) : Nat × TV) :: ((21, TV.v (Ty.int IntKind.i64)) : Nat × TV) :: ([] : List (Nat × TV))) (TB.arr (Ty.prod (Ty.int IntKind.i64) (Ty.prod (Ty.int IntKind.i64) (Ty.prod (Ty.int IntKind.i64) Ty.unit))) true :: ([] : List TB)) :: ([] : List LSh)
def onFF (p a b : Int) : Bool × Int × Unit := if isPb p = true ∧ inPt p a = true ∧ inPt p b = true then (onF p a b, 0, ()) else (false, 2, ())
noncomputable def con26 : Con := mkC 26 [.d I64, .d I64, .d I64] [.bool, I64] (fun (p a b : Int) => []) (fun (p a b : Int) => onFF p a b)
noncomputable def g26 (x0 x1 x2 : Int) : Option (Bool × Int × Unit) := gd (small (x1 :: x2 :: ([] : List Int))) (bif !(readF x0 (x1 :: x2 :: ([] : List Int))).2.1 then some ((false, (2 : Int), ()) : Bool × Int × Unit) else gd (Option.isSome (readF x0 (x1 :: x2 :: ([] : List Int))).1 = true) (gd (isPl (Option.getD (readF x0 (x1 :: x2 :: ([] : List Int))).1 (((0 : Int), ([] : List (Int × Int × Int × Unit)), ([] : List ((Int × Int × Int × Unit) × Int)), ()) : Int × List (Int × Int × Int × Unit) × List ((Int × Int × Int × Unit) × Int) × Unit))) (gd (inPt (Option.getD (readF x0 (x1 :: x2 :: ([] : List Int))).1 (((0 : Int), ([] : List (Int × Int × Int × Unit)), ([] : List ((Int × Int × Int × Unit) × Int)), ()) : Int × List (Int × Int × Int × Unit) × List ((Int × Int × Int × Unit) × Int) × Unit)).1 x1 = true) (gd (inPt (Option.getD (readF x0 (x1 :: x2 :: ([] : List Int))).1 (((0 : Int), ([] : List (Int × Int × Int × Unit)), ([] : List ((Int × Int × Int × Unit) × Int)), ()) : Int × List (Int × Int × Int × Unit) × List ((Int × Int × Int × Unit) × Int) × Unit)).1 x2 = true) (some ((onF (Option.getD (readF x0 (x1 :: x2 :: ([] : List Int))).1 (((0 : Int), ([] : List (Int × Int × Int × Unit)), ([] : List ((Int × Int × Int × Unit) × Int)), ()) : Int × List (Int × Int × Int × Unit) × List ((Int × Int × Int × Unit) × Int) × Unit)).1 x1 x2, (0 : Int), ()) : Bool × Int × Unit))))))
noncomputable def g26_sh : List LSh := ([] : List LSh)
def eqLf {α : Type} (q : α → α → Bool) : List α → List α → Bool
  | [], [] => true
  | x :: l, y :: m => q x y && eqLf q l m
  | _, _ => false
def deqT (x y : TripD) : Bool := deq Trip x y
noncomputable def con30 : Con := mkC 30 [.d (.slice Trip), .d (.slice Trip)] [.bool] (fun (l m : List TripD) => [small l, small m]) (fun (l m : List TripD) => (eqLf deqT l m, ()))
noncomputable def g30 (x0 x1 : List (Int × Int × Int × Unit)) : Option (Bool × Unit) := bif !ieq (↑(List.length x0) : Int) (↑(List.length x1) : Int) then some ((false, ()) : Bool × Unit) else whileO (fun (d2 : Int × Unit) => bif ilt d2.1 (↑(List.length x0) : Int) then gd ((0 : Int) ≤ d2.1 ∧ d2.1 < (↑(List.length x0) : Int)) (gd ((0 : Int) ≤ d2.1 ∧ d2.1 < (↑(List.length x1) : Int)) (bif !deq (Ty.prod (Ty.int IntKind.i64) (Ty.prod (Ty.int IntKind.i64) (Ty.prod (Ty.int IntKind.i64) Ty.unit))) (List.getD x0 (Int.toNat d2.1) (((0 : Int), (0 : Int), (0 : Int), ()) : Int × Int × Int × Unit) : Int × Int × Int × Unit) (List.getD x1 (Int.toNat d2.1) (((0 : Int), (0 : Int), (0 : Int), ()) : Int × Int × Int × Unit) : Int × Int × Int × Unit) then some (Lp.out ((false, ()) : Bool × Unit)) else some (Lp.go ((wr IntKind.i64 (d2.1 + (1 : Int)), ()) : Int × Unit)))) else some (Lp.out ((true, ()) : Bool × Unit))) (((0 : Int), ()) : Int × Unit)
noncomputable def g30_sh : List LSh := LSh.mk (((13, TV.v (Ty.int IntKind.i64)) : Nat × TV) :: ([] : List (Nat × TV))) ([] : List TB) :: ([] : List LSh)
noncomputable def con6 : Con := mkC 6 [.d I64, .d I64, .d I64] [.bool] (fun (p a b : Int) => []) (fun (p a b : Int) => (true, ()))
noncomputable def g6 (x0 x1 x2 : Int) : Option (Bool × Unit) := bif !isPb x0 then gd (ieq (↑(List.length (pointsF x0).1) : Int) (0 : Int) = true → ieq (↑(List.length (pointsF x0).1) : Int) (0 : Int) = true) (gd (ieq (↑(List.length (pointsF x0).1) : Int) (0 : Int) = true → ieq (↑(List.length (pointsF x0).1) : Int) (0 : Int) = true) (gd ((bif ieq (↑(List.length (pointsF x0).1) : Int) (0 : Int) then !(onFF x0 x1 x2).1 else false) = true → (bif ieq (↑(List.length (pointsF x0).1) : Int) (0 : Int) then !(onFF x0 x1 x2).1 else false) = true) (gd ((bif ieq (↑(List.length (pointsF x0).1) : Int) (0 : Int) then !(onFF x0 x1 x2).1 else false) = true → (bif ieq (↑(List.length (pointsF x0).1) : Int) (0 : Int) then !(onFF x0 x1 x2).1 else false) = true) (gd ((bif bif ieq (↑(List.length (pointsF x0).1) : Int) (0 : Int) then !(onFF x0 x1 x2).1 else false then ieq (pointsF x0).2.1 (2 : Int) else false) = true → (bif bif ieq (↑(List.length (pointsF x0).1) : Int) (0 : Int) then !(onFF x0 x1 x2).1 else false then ieq (pointsF x0).2.1 (2 : Int) else false) = true) (gd ((bif bif ieq (↑(List.length (pointsF x0).1) : Int) (0 : Int) then !(onFF x0 x1 x2).1 else false then ieq (pointsF x0).2.1 (2 : Int) else false) = true → (bif bif ieq (↑(List.length (pointsF x0).1) : Int) (0 : Int) then !(onFF x0 x1 x2).1 else false then ieq (pointsF x0).2.1 (2 : Int) else false) = true) (gd ((bif bif bif ieq (↑(List.length (pointsF x0).1) : Int) (0 : Int) then !(onFF x0 x1 x2).1 else false then ieq (pointsF x0).2.1 (2 : Int) else false then ieq (onFF x0 x1 x2).2.1 (2 : Int) else false) = true → (bif bif bif ieq (↑(List.length (pointsF x0).1) : Int) (0 : Int) then !(onFF x0 x1 x2).1 else false then ieq (pointsF x0).2.1 (2 : Int) else false then ieq (onFF x0 x1 x2).2.1 (2 : Int) else false) = true) (some ((bif bif bif bif ieq (↑(List.length (pointsF x0).1) : Int) (0 : Int) then !(onFF x0 x1 x2).1 else false then ieq (pointsF x0).2.1 (2 : Int) else false then ieq (onFF x0 x1 x2).2.1 (2 : Int) else false then true else false, ()) : Bool × Unit)))))))) else gd (isP x0) (gd (small (pointsF x0).1) (gd (small (ptsC x0)) (gd ((!!eqLf deqT (pointsF x0).1 (ptsC x0)) = true → (!!eqLf deqT (pointsF x0).1 (ptsC x0)) = true) (gd ((!eqLf deqT (pointsF x0).1 (ptsC x0)) = false → (!!eqLf deqT (pointsF x0).1 (ptsC x0)) = true) (gd ((!bif !eqLf deqT (pointsF x0).1 (ptsC x0) then true else !ieq (pointsF x0).2.1 (0 : Int)) = true → (!bif !eqLf deqT (pointsF x0).1 (ptsC x0) then true else !ieq (pointsF x0).2.1 (0 : Int)) = true) (gd ((bif !eqLf deqT (pointsF x0).1 (ptsC x0) then true else !ieq (pointsF x0).2.1 (0 : Int)) = false → (!bif !eqLf deqT (pointsF x0).1 (ptsC x0) then true else !ieq (pointsF x0).2.1 (0 : Int)) = true) (bif bif bif !eqLf deqT (pointsF x0).1 (ptsC x0) then true else !ieq (pointsF x0).2.1 (0 : Int) then true else false then some ((false, ()) : Bool × Unit) else gd (small (x1 :: x2 :: ([] : List Int))) (bif !(isPb x0 && List.all (x1 :: x2 :: ([] : List Int)) (inPt x0)) then gd ((!(onFF x0 x1 x2).1) = true → (!(onFF x0 x1 x2).1) = true) (gd ((!(onFF x0 x1 x2).1) = true → (!(onFF x0 x1 x2).1) = true) (some ((bif !(onFF x0 x1 x2).1 then ieq (onFF x0 x1 x2).2.1 (2 : Int) else false, ()) : Bool × Unit))) else gd (isP x0) (gd (inPt x0 x1 = true) (gd (inPt x0 x2 = true) (gd (beqB (onFF x0 x1 x2).1 (onF x0 x1 x2) = true → beqB (onFF x0 x1 x2).1 (onF x0 x1 x2) = true) (gd (beqB (onFF x0 x1 x2).1 (onF x0 x1 x2) = true → beqB (onFF x0 x1 x2).1 (onF x0 x1 x2) = true) (some ((bif beqB (onFF x0 x1 x2).1 (onF x0 x1 x2) then ieq (onFF x0 x1 x2).2.1 (0 : Int) else false, ()) : Bool × Unit))))))))))))))
noncomputable def g6_sh : List LSh := ([] : List LSh)


theorem goal24 : con24.goal Try.prog (spOf [conRead]) g24_sh [] lm30 := by
  have e : (∀ (p : Int), g24 p = some (pointsF p)) = con24.goal Try.prog (spOf [conRead]) g24_sh [] lm30 := by kernel_rfl
  rw [← e]
  intro p
  unfold g24
  rw [gd_pos (by simp [small])]
  by_cases hp : isPb p = true
  · have hP := isPb_iff.1 hp
    have hr : readF p [] = (some (planeF p), true, ()) := by simp [readF, hp]
    have hpf : pointsF p = (ptsC p, 0, ()) := by simp [pointsF, hp]
    have hl := pts_len p (isP_mem hP)
    have h49 : p * p + p + 1 ≤ 57 := by rcases hP with rfl | rfl | rfl | rfl <;> decide
    simp only [hr, hpf, Bool.not_true, Option.getD_some, Option.isSome_some, plane_pts p (isP_mem hP), gd_true, Nat.le_refl, List.take_length, Nat.zero_add, List.drop_zero]
    rw [cond_f rfl]
    refine whileO_rec (fun (d : Int × List TripD × Unit) => 0 ≤ d.1 ∧ d.1 ≤ (ptsC p).length ∧ (d.2.1.length : Int) = d.1) (fun (d : Int × List TripD × Unit) => (ptsC p).length - d.1.toNat)
      (fun (d : Int × List TripD × Unit) => (d.2.1 ++ (ptsC p).drop d.1.toNat, 0, ())) ?_ ((0 : Int), [], ()) ⟨by simp only; omega, by simp only; omega, rfl⟩
    rintro ⟨i, xs, _⟩ ⟨h0, h1, h2⟩
    simp only at h0 h1 h2 ⊢
    by_cases hlt : i < (ptsC p).length
    · right
      have hn : i.toNat < (ptsC p).length := by omega
      have ht : (i + 1).toNat = i.toNat + 1 := by omega
      refine ⟨((i + 1, xs ++ [(ptsC p)[i.toNat]], ()) : Int × List TripD × Unit), ?_, ⟨by simp only; omega, by simp only; omega, by simp only [List.length_append, List.length_singleton]; omega⟩, by simp only; omega, ?_⟩
      · rw [cond_t (ilt_iff.2 hlt), gd_pos ⟨h0, hlt⟩, getD_at hn, gd_pos (by omega), gd_pos (by simp), wr_id (by omega)]
      · simp only [ht]
        rw [List.drop_eq_getElem_cons hn, List.append_assoc]
        rfl
    · left
      have : i.toNat = (ptsC p).length := by omega
      rw [cond_f (ilt_false.2 (by omega)), this, List.drop_length, List.append_nil]
  · have hr : readF p [] = (none, false, ()) := by simp [readF, hp]
    rw [hr]
    simp [pointsF, hp]
set_option maxRecDepth 100000 in
theorem ok24 : con24.Ok Try.prog := Con.of_goal mixed (okC okRead okN) con24 goal24

theorem goal26 : con26.goal Try.prog (spOf [conRead, con70]) g26_sh [] lm30 := by
  have e : (∀ (p a b : Int), g26 p a b = some (onFF p a b)) = con26.goal Try.prog (spOf [conRead, con70]) g26_sh [] lm30 := by kernel_rfl
  rw [← e]
  intro p a b
  have hs : small [a, b] := by simp [small]
  have h1 : (planeF p).1 = p := rfl
  unfold g26
  rw [gd_pos hs]
  by_cases hp : isPb p = true
  · have hpl : isPl (planeF p) := ⟨isPb_iff.1 hp, rfl⟩
    by_cases ha : inPt p a = true <;> by_cases hb : inPt p b = true <;> simp [readF, onFF, gd_true, hp, ha, hb, h1, hpl]
  · simp [readF, onFF, gd_true, hp]
set_option maxRecDepth 100000 in
theorem ok26 : con26.Ok Try.prog := Con.of_goal mixed (okC okRead (okC ok70 okN)) con26 goal26

theorem eqLf_len {α : Type} {q : α → α → Bool} : ∀ {l m : List α}, l.length ≠ m.length → eqLf q l m = false
  | [], [], h => absurd rfl h
  | [], _ :: _, _ => rfl
  | _ :: _, [], _ => rfl
  | x :: l, y :: m, h => by
    rw [eqLf, eqLf_len (by simpa using h), Bool.and_false]
theorem eqLf_iff {α : Type} {q : α → α → Bool} (hq : ∀ x y, q x y = true ↔ x = y) : ∀ {l m : List α}, eqLf q l m = true ↔ l = m
  | [], [] => by simp [eqLf]
  | [], _ :: _ => by simp [eqLf]
  | _ :: _, [] => by simp [eqLf]
  | x :: l, y :: m => by simp [eqLf, hq, eqLf_iff hq (l := l) (m := m)]
theorem deqT_iff (x y : TripD) : deqT x y = true ↔ x = y := deq_iff (t := Trip) rfl

theorem goal30 : con30.goal Try.prog (spOf []) g30_sh [] lm30 := by
  have e : (∀ (l m : List TripD), small l → small m → g30 l m = some (eqLf deqT l m, ())) = con30.goal Try.prog (spOf []) g30_sh [] lm30 := by kernel_rfl
  rw [← e]
  intro l m hs hs2
  unfold small at hs
  unfold g30
  by_cases hl : l.length = m.length
  · rw [cond_f (by simp [ieq, hl])]
    refine whileO_rec (fun (d : Int × Unit) => 0 ≤ d.1 ∧ d.1 ≤ l.length) (fun (d : Int × Unit) => l.length - d.1.toNat) (fun (d : Int × Unit) => (eqLf deqT (l.drop d.1.toNat) (m.drop d.1.toNat), ())) ?_ ((0 : Int), ()) ⟨by omega, by omega⟩
    rintro ⟨i, _⟩ ⟨h0, h1⟩
    simp only at h0 h1 ⊢
    by_cases hlt : i < l.length
    · have hn : i.toNat < l.length := by omega
      have hm : i.toNat < m.length := by omega
      have ht : (i + 1).toNat = i.toNat + 1 := by omega
      rw [cond_t (ilt_iff.2 hlt), gd_pos ⟨h0, hlt⟩, gd_pos (by omega), getD_at hn, getD_at hm, List.drop_eq_getElem_cons hn, List.drop_eq_getElem_cons hm]
      by_cases hz : deq Trip l[i.toNat] m[i.toNat] = true
      · right
        refine ⟨((i + 1, ()) : Int × Unit), by rw [hz, Bool.not_true, cond_f rfl, wr_id (by omega)], ⟨by simp only; omega, by simp only; omega⟩, by simp only; omega, ?_⟩
        simp only [ht]
        rw [eqLf, deqT, hz, Bool.true_and]
      · left
        have hz' : deq Trip l[i.toNat] m[i.toNat] = false := by simpa using hz
        rw [hz', Bool.not_false, cond_t rfl, eqLf, deqT, hz', Bool.false_and]
    · left
      have h1 : i.toNat = l.length := by omega
      have h2 : m.length = i.toNat := by omega
      rw [cond_f (ilt_false.2 (by omega)), h1, List.drop_length, hl, List.drop_length]
      rfl
  · rw [cond_t (by simp [ieq, hl]; omega), eqLf_len hl]
set_option maxRecDepth 100000 in
theorem ok30 : con30.Ok Try.prog := Con.of_goal mixed okN con30 goal30

theorem pts_small {p : Int} (hp : isP p) : small (ptsC p) := by
  have hl := pts_len p (isP_mem hp)
  have h49 : p * p + p + 1 ≤ 57 := by rcases hp with rfl | rfl | rfl | rfl <;> decide
  unfold small
  omega

theorem goal6 : con6.goal Try.prog (spOf [con24, con26, con25, con22, con30, con31, con21, con32]) g6_sh [] lm30 := by
  have e : (∀ (p a b : Int), g6 p a b = some (true, ())) = con6.goal Try.prog (spOf [con24, con26, con25, con22, con30, con31, con21, con32]) g6_sh [] lm30 := by kernel_rfl
  rw [← e]
  intro p a b
  have hs : small [a, b] := by simp [small]
  have hq : eqLf deqT (ptsC p) (ptsC p) = true := (eqLf_iff deqT_iff).2 rfl
  by_cases hp : isPb p = true
  · have hP := isPb_iff.1 hp
    have hsm := pts_small hP
    by_cases ha : inPt p a = true <;> by_cases hb : inPt p b = true <;> simp [g6, pointsF, onFF, gd_true, hp, ha, hb, hP, hs, hsm, hq, ieq_d, beqB]
  · simp [g6, pointsF, onFF, gd_true, hp, ieq_d]
set_option maxRecDepth 100000 in
theorem ok6 : con6.Ok Try.prog := Con.of_goal mixed (okC ok24 (okC ok26 (okC ok25 (okC ok22 (okC ok30 (okC ok31 (okC ok21 (okC ok32 okN)))))))) con6 goal6

end Go.Arcs
