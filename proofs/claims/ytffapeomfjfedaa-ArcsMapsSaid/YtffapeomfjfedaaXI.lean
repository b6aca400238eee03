/- The law Arcs: contracts. -/
import Derived.Test.YtffapeomfjfedaaXH
import Derived.Test.YtffapeomfjfedaaSS
import Derived.Test.YtffapeomfjfedaaXC
import Derived.Test.YtffapeomfjfedaaXG
set_option linter.unusedVariables false
set_option linter.unusedSimpArgs false
namespace Go.Arcs
open Go Go.Ab Go.Proofs

def setP (p : Int) (l : List Int) : Prop := l.all (inPt p) = true ∧ l.length ≤ 60
def withL (l : List Int) (x : Int) : List Int := l.filter (fun y => ilt y x) ++ x :: l.filter (fun y => ilt x y)
/-! the reference -/
noncomputable def con94 : Con := mkC 94 [.d LI, .d I64] [.bool] (fun (l : List Int) (x : Int) => [small l]) (fun (l : List Int) (x : Int) => (l.contains x, ()))
noncomputable def g94 (x0 : List Int) (x1 : Int) : Option (Bool × Unit) := whileO (fun (d2 : Int × Unit) => bif ilt d2.1 (↑(List.length x0) : Int) then gd ((0 : Int) ≤ d2.1 ∧ d2.1 < (↑(List.length x0) : Int)) (bif ieq x1 (List.getD x0 (Int.toNat d2.1) (0 : Int)) then some (Lp.out ((true, ()) : Bool × Unit)) else some (Lp.go ((wr IntKind.i64 (d2.1 + (1 : Int)), ()) : Int × Unit))) else some (Lp.out ((false, ()) : Bool × Unit))) (((0 : Int), ()) : Int × Unit)
noncomputable def g94_sh : List LSh := LSh.mk (((9, TV.v (Ty.int IntKind.i64)) : Nat × TV) :: ([] : List (Nat × TV))) ([] : List TB) :: ([] : List LSh)
noncomputable def arcR (p : Int) (l : List Int) : Bool := decide (mostF (tabF p) l ≤ 2)
noncomputable def con59 : Con := mkC 59 [.d I64, .d LI] [.bool] (fun (p : Int) (l : List Int) => [isP p, setP p l]) (fun (p : Int) (l : List Int) => (arcR p l, ()))
noncomputable def g59 (x0 : Int) (x1 : List Int) : Option (Bool × Unit) := gd (isP x0) (gd (sqT (tabF x0)) (gd (∀ (x2 : Int), List.Mem x2 x1 → (0 : Int) ≤ x2 ∧ x2 < (↑(List.length (tabF x0)) : Int)) (gd (small x1) (some ((ile (mostF (tabF x0) x1) (2 : Int), ()) : Bool × Unit)))))
noncomputable def g59_sh : List LSh := ([] : List LSh)
end Go.Arcs

set_option linter.unusedVariables false
set_option linter.unusedSimpArgs false
namespace Go.Arcs
open Go Go.Ab Go.Proofs

section
variable {α : Type} {f : α → Bool} {d : α}
theorem cnt1 {l : List α} : 1 ≤ l.countP f ↔ ∃ i, i < l.length ∧ f (l.getD i d) = true := by
  rw [show (1 ≤ l.countP f) = (0 < l.countP f) from rfl, List.countP_pos_iff]
  constructor
  · rintro ⟨a, ha, hf⟩
    obtain ⟨i, hi, rfl⟩ := List.getElem_of_mem ha
    exact ⟨i, hi, by rw [gd_at hi]; exact hf⟩
  · rintro ⟨i, hi, hf⟩
    rw [gd_at hi] at hf
    exact ⟨_, List.getElem_mem hi, hf⟩
theorem cnt2 : ∀ {l : List α}, 2 ≤ l.countP f ↔ ∃ j i, j < i ∧ i < l.length ∧ f (l.getD j d) = true ∧ f (l.getD i d) = true
  | [] => by simp
  | x :: l => by
    rw [List.countP_cons]
    constructor
    · intro h
      by_cases hx : f x = true
      · rw [if_pos hx] at h
        obtain ⟨i, h1, h2⟩ := (cnt1 (d := d)).1 (show 1 ≤ l.countP f by omega)
        exact ⟨0, i + 1, by omega, by simpa using h1, hx, by simpa using h2⟩
      · rw [if_neg hx] at h
        obtain ⟨j, i, h1, h2, h3, h4⟩ := (cnt2 (l := l)).1 (by omega)
        exact ⟨j + 1, i + 1, by omega, by simpa using h2, by simpa using h3, by simpa using h4⟩
    · rintro ⟨j, i, h1, h2, h3, h4⟩
      obtain ⟨i, rfl⟩ : ∃ k, i = k + 1 := ⟨i - 1, by omega⟩
      rw [List.length_cons] at h2
      rw [List.getD_cons_succ] at h4
      cases j with
      | zero =>
        rw [List.getD_cons_zero] at h3
        rw [if_pos h3]
        have := (cnt1 (f := f) (d := d) (l := l)).2 ⟨i, by omega, h4⟩
        omega
      | succ j =>
        rw [List.getD_cons_succ] at h3
        have := (cnt2 (l := l)).2 ⟨j, i, by omega, by omega, h3, h4⟩
        omega
end

section
variable {p : Int}
theorem range_at {n i : Nat} (h : i < n) : (List.range n).getD i 0 = i := by
  rw [List.getD_eq_getElem?_getD, List.getElem?_range h]; rfl
/-- Two points are on one line alone. -/
theorem line_one (hp : isP p) {x y b c : Nat} (hx : x < (ptsC p).length) (hy : y < (ptsC p).length) (hb : b < (ptsC p).length) (hc : c < (ptsC p).length) (hne : x ≠ y) (h1 : onF p x b = true) (h2 : onF p y b = true) (h3 : onF p x c = true) (h4 : onF p y c = true) : b = c := by
  have h := through_two hp hx hy hne
  rw [sumN_congr (g := fun b => ind (onF p x b && onF p y b)) fun b _ => by cases onF p x b <;> cases onF p y b <;> rfl, sumN_count] at h
  rcases Nat.lt_trichotomy b c with hlt | he | hlt
  · have := (cnt2 (f := fun b : Nat => onF p x b && onF p y b) (d := 0) (l := List.range (ptsC p).length)).2 ⟨b, c, hlt, by simpa using hc, by rw [range_at hb, h1, h2]; rfl, by rw [range_at hc, h3, h4]; rfl⟩
    omega
  · exact he
  · have := (cnt2 (f := fun b : Nat => onF p x b && onF p y b) (d := 0) (l := List.range (ptsC p).length)).2 ⟨c, b, hlt, by simpa using hb, by rw [range_at hc, h3, h4]; rfl, by rw [range_at hb, h1, h2]; rfl⟩
    omega
theorem in_nat' (hp : isP p) {x : Int} (hx : inPt p x = true) : ∃ n : Nat, x = n ∧ n < (ptsC p).length := by
  have h1 := inPt_iff.1 hx
  have := pts_len p (isP_mem hp)
  exact ⟨x.toNat, by omega, by omega⟩
/-- Three points are on one line. -/
theorem str_iff (hp : isP p) {a b c : Int} (ha : inPt p a = true) (hb : inPt p b = true) (hc : inPt p c = true) (hab : a ≠ b) : strF p a b c = true ↔ ∃ k : Nat, k < (ptsC p).length ∧ onF p a k = true ∧ onF p b k = true ∧ onF p c k = true := by
  rw [str_on hp ha hb hc hab, ← thr_join hp ha hb hab]
  obtain ⟨j1, j2, j3⟩ := join_on hp ha hb hab
  obtain ⟨n, hn, hn2⟩ := in_nat' hp j1
  rw [hn] at j2 j3 ⊢
  constructor
  · exact fun h => ⟨n, hn2, j2, j3, h⟩
  · rintro ⟨k, k1, k2, k3, k4⟩
    obtain ⟨x, rfl, hx⟩ := in_nat' hp ha
    obtain ⟨y, rfl, hy⟩ := in_nat' hp hb
    have := line_one hp hx hy hn2 k1 (fun e => hab (by rw [e])) j2 j3 k2 k3
    rw [this]; exact k4

variable {l : List Int}
theorem arcR_iff (hp : isP p) (hl : l.all (inPt p) = true) : arcR p l = true ↔ ∀ b : Nat, b < (ptsC p).length → meetsF p l b ≤ 2 := by
  unfold arcR mostF
  rw [decide_eq_true_eq, fold_max, tab_len]
  constructor
  · intro h b hb
    rw [← count_tab hp hl hb]; exact h.2 b hb
  · intro h
    exact ⟨by omega, fun b hb => by rw [count_tab hp hl hb]; exact h b hb⟩
/-! ### One point more -/
theorem with_perm {x : Int} (h : x ∉ l) : (withL l x).Perm (x :: l) := by
  unfold withL
  refine List.perm_middle.trans (List.Perm.cons x ?_)
  have e : l.filter (fun y => ilt x y) = l.filter (fun y => !ilt y x) := List.filter_congr fun y hy => by
    have hne : y ≠ x := fun e => h (e ▸ hy)
    rw [Bool.eq_iff_iff, ilt_iff, Bool.not_eq_true', ilt_false]
    omega
  rw [e]
  exact List.filter_append_perm _ _
theorem with_all {x : Int} (hl : l.all (inPt p) = true) (hx : inPt p x = true) : (withL l x).all (inPt p) = true := by
  rw [List.all_eq_true] at hl ⊢
  intro y hy
  unfold withL at hy
  rcases List.mem_append.1 hy with hy | hy
  · exact hl y (List.mem_filter.1 hy).1
  · rcases List.mem_cons.1 hy with rfl | hy
    · exact hx
    · exact hl y (List.mem_filter.1 hy).1
end
end Go.Arcs

set_option linter.unusedVariables false
set_option linter.unusedSimpArgs false
namespace Go.Arcs
open Go Go.Ab Go.Proofs

abbrev I1D := Int × Unit
/-! Arc -/
/-! Free -/
abbrev Row := Int × List Int × Unit
end Go.Arcs

set_option linter.unusedVariables false
set_option linter.unusedSimpArgs false
namespace Go.Arcs
open Go Go.Ab Go.Proofs

/-! Growing -/
section
variable {p : Int}
theorem with_len {l : List Int} {x : Int} (h : x ∉ l) : (withL l x).length = l.length + 1 := by
  rw [(with_perm h).length_eq]; rfl
end
/-! The reference -/
theorem ile_d {x y : Int} : ile x y = decide (x ≤ y) := by
  rw [Bool.eq_iff_iff, ile_iff, decide_eq_true_eq]
theorem goal94 : con94.goal Try.prog (spOf []) g94_sh [] lm30 := by
  have e : (∀ (l : List Int) (x : Int), small l → g94 l x = some (l.contains x, ())) = con94.goal Try.prog (spOf []) g94_sh [] lm30 := by kernel_rfl
  rw [← e]
  intro l x hs
  unfold small at hs
  unfold g94
  have hb : (!l.contains x) = true ↔ ∀ i, 0 ≤ i → i < l.length → (!ieq x (l.getD i 0)) = true := by
    rw [Bool.not_eq_true', List.contains_eq_mem, decide_eq_false_iff_not]
    constructor
    · intro h i _ hi
      rw [Bool.not_eq_true', ieq_false]
      intro e
      exact h (by rw [e, gd_at hi]; exact List.getElem_mem hi)
    · intro h hm
      obtain ⟨i, hi, he⟩ := List.getElem_of_mem hm
      have := h i (Nat.zero_le _) hi
      rw [Bool.not_eq_true', ieq_false, gd_at hi] at this
      exact this he.symm
  refine (whileO_chk (st := fun i : Nat => (((i : Int), ()) : I1D)) (lo := 0) (hi := l.length) (Q := fun i => !ieq x (l.getD i 0)) (b := !l.contains x) (x := ((true, ()) : Bool × Unit)) (y := ((false, ()) : Bool × Unit)) (Nat.zero_le _) hb (fun i _ hi => ?_) ?_).trans (by cases l.contains x <;> rfl)
  · dsimp only
    rw [cond_t (ilt_iff.2 (by omega)), gd_pos (by omega), Int.toNat_natCast, cast1 (by omega)]
    cases ieq x (l.getD i 0) <;> rfl
  · dsimp only
    rw [cond_f (ilt_false.2 (by omega))]
set_option maxRecDepth 100000 in
theorem ok94 : con94.Ok Try.prog := Con.of_goal mixed okN con94 goal94
theorem fil_take {q : Int → Bool} {l : List Int} {i : Nat} (hi : i < l.length) : (l.take (i + 1)).filter q = (l.take i).filter q ++ if q (l.getD i 0) = true then [l.getD i 0] else [] := by
  rw [List.take_succ_eq_append_getElem hi, List.filter_append, gd_at hi]
  congr 1
  by_cases hq : q l[i] = true
  · rw [if_pos hq, List.filter_cons_of_pos hq]; rfl
  · rw [if_neg hq, List.filter_cons_of_neg hq]; rfl
theorem fil_len {q : Int → Bool} {l : List Int} {i : Nat} : ((l.take i).filter q).length ≤ l.length := by
  have := List.length_filter_le q (l.take i)
  rw [List.length_take] at this
  omega
theorem goal59 : con59.goal Try.prog (spOf [con81, con85]) g59_sh [] lm30 := by
  have e : (∀ (p : Int) (l : List Int), isP p → setP p l → g59 p l = some (arcR p l, ())) = con59.goal Try.prog (spOf [con81, con85]) g59_sh [] lm30 := by kernel_rfl
  rw [← e]
  rintro p l hp ⟨hl, h60⟩
  unfold g59 arcR
  rw [gd_pos hp, gd_pos (tab_sq hp)]
  refine (gd_pos (all_rng hp hl)).trans ?_
  rw [gd_pos (by unfold small; omega), ile_d]
set_option maxRecDepth 100000 in
theorem ok59 : con59.Ok Try.prog := Con.of_goal mixed (okC ok81 (okC ok85 okN)) con59 goal59
end Go.Arcs

set_option linter.unusedVariables false
set_option linter.unusedSimpArgs false
namespace Go.Arcs
open Go Go.Ab Go.Proofs

end Go.Arcs

set_option linter.unusedVariables false
set_option linter.unusedSimpArgs false
namespace Go.Arcs
open Go Go.Ab Go.Proofs

end Go.Arcs

set_option linter.unusedVariables false
set_option linter.unusedSimpArgs false
namespace Go.Arcs
open Go Go.Ab Go.Proofs

section
variable {p : Int} {l : List Int}
end

end Go.Arcs
