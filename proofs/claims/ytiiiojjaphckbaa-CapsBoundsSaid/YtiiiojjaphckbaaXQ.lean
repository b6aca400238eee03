/- Rulers: contract of the law Lengths. -/
import Derived.Test.YtiiiojjaphckbaaXP
set_option linter.unusedVariables false
set_option linter.unusedSimpArgs false
namespace Go.Caps
open Go Go.Ab Go.Proofs

end Go.Caps

set_option linter.unusedVariables false
set_option linter.unusedSimpArgs false
namespace Go.Caps
open Go Go.Ab Go.Proofs

theorem ris_lt {l : List Int} (hr : ris l = true) {i j : Nat} (hi : i < l.length) (hj : j < l.length) (h : l[i] < l[j]) : i < j := by
  rcases Nat.lt_or_ge i j with h' | h'
  · exact h'
  · rcases Nat.eq_or_lt_of_le h' with e | e
    · subst e; omega
    · have := ris_at hr e hi
      rw [gd_at hi, gd_at hj] at this; omega

/-! ### At least as long as all differences -/
/-! ### No shorter ones -/
def force' {α : Type} (x : Nat) (f : Nat → α) : α := Nat.rec (f 0) (fun m _ => f (Nat.succ m)) x
theorem force_eq' {α : Type} (x : Nat) (f : Nat → α) : force' x f = f x := by cases x <;> rfl
/-! ### What Short returns -/
theorem dfs_sound {may : List Int → Int → Bool} {n size : Int} : ∀ (f : Nat) (frm : Int) (l r : List Int), dfsF may n size f frm l = some r → 0 ≤ frm → risTo frm l → (∀ x ∈ l, x < n) → (l.length : Int) ≤ size → (∀ i, i < l.length → may (l.take i) (l.getD i 0) = true) →
    (r.length : Int) = size ∧ ris r = true ∧ (∀ x ∈ r, 0 ≤ x ∧ x < n) ∧ ∀ i, i < r.length → may (r.take i) (r.getD i 0) = true
  | 0, frm, l, r, h, _, _, _, _, _ => by simp [dfsF] at h
  | f + 1, frm, l, r, h, hf, hr, hn, hs, hm => by
    rw [dfsF_succ] at h
    split at h
    · rename_i he
      cases h
      exact ⟨he, hr.1, fun x hx => ⟨(hr.2 x hx).1, hn x hx⟩, hm⟩
    · rename_i hne
      obtain ⟨y, y1, y2, y3, y4, _⟩ := tryX_some _ _ h
      refine dfs_sound f (y + 1) (l ++ [y]) r y4 (by omega) (risTo_snoc hr hf y1) (fun x hx => ?_) (by rw [snoc_len]; omega) (fun i hi => ?_)
      · rcases List.mem_append.1 hx with hx | hx
        · exact hn x hx
        · rw [List.mem_singleton.1 hx]; omega
      · rw [snoc_len] at hi
        by_cases he : i = l.length
        · subst he
          rw [List.take_append_of_le_length (Nat.le_refl _), List.take_length, List.getD_eq_getElem?_getD, List.getElem?_append_right (Nat.le_refl _), Nat.sub_self]
          exact y3
        · rw [List.take_append_of_le_length (by omega), List.getD_eq_getElem?_getD, List.getElem?_append_left (by omega), ← List.getD_eq_getElem?_getD]
          exact hm i (by omega)
theorem dfs_sound0 {may : List Int → Int → Bool} {n size : Int} (hs : 0 ≤ size) {f : Nat} {r : List Int} (h : dfsF may n size f 0 [] = some r) :
    (r.length : Int) = size ∧ ris r = true ∧ (∀ x ∈ r, 0 ≤ x ∧ x < n) ∧ ∀ i, i < r.length → may (r.take i) (r.getD i 0) = true :=
  dfs_sound f 0 [] r h (Int.le_refl _) ⟨rfl, fun x hx => nomatch hx⟩ (fun x hx => nomatch hx) (by simpa using hs) (fun i hi => by simp at hi)

/-! ### Backward, and modulo -/
end Go.Caps

set_option linter.unusedVariables false
set_option linter.unusedSimpArgs false
namespace Go.Caps
open Go Go.Ab Go.Proofs

end Go.Caps
