/- Rulers: contracts. -/
import Derived.Test.YtiiiojjaphckbaaXM
import Derived.Test.YtiiiojjaphckbaaXN
set_option linter.unusedVariables false
set_option linter.unusedSimpArgs false
namespace Go.Caps
open Go Go.Ab Go.Proofs

/-! the search -/
noncomputable def con54s : SCon := mkS 54 [.v LI] [] [.slf 0 1] [.arr I64 true] (fun (l : List Int) => [l.length ≤ 100000]) (fun (l : List Int) => (l, ()))
noncomputable def g54s (x0 : List Int) : Option (List Int × Unit) := Option.map id (eqO (List.length x0 = (0 : Nat)) (gd ((0 : Nat) = (0 : Nat)) (some ((([] : List Int), ()) : List Int × Unit))) (gd ((0 : Nat) ≤ (0 : Nat)) (gd (((0 : Nat) + List.length x0) * (8 : Nat) ≤ (1099511627776 : Nat)) (gd ((0 : Nat) + List.length x0 = List.length x0) (some ((x0, ()) : List Int × Unit))))))
noncomputable def g54s_sh : List LSh := ([] : List LSh)
def tryF (g : Int → Int → List Int → Srch) (may : List Int → Int → Bool) (len : Int) : Nat → Int → List Int → Srch
  | 0, _, a => (false, len, a, ())
  | c + 1, x, a => if may (a.take len.toNat) x = true then
      (if (g (x + 1) (len + 1) (a.take len.toNat ++ [x])).1 = true then g (x + 1) (len + 1) (a.take len.toNat ++ [x])
        else tryF g may len c (x + 1) (g (x + 1) (len + 1) (a.take len.toNat ++ [x])).2.2.1)
    else tryF g may len c (x + 1) a
def growF (may : List Int → Int → Bool) (n size : Int) : Nat → Int → Int → List Int → Srch
  | 0, _, len, a => (false, len, a, ())
  | f + 1, frm, len, a => if len = size then (true, len, a, ()) else tryF (growF may n size f) may len (n - (size - len) + 1 - frm).toNat frm a
def risTo (frm : Int) (l : List Int) : Prop := ris l = true ∧ ∀ x ∈ l, 0 ≤ x ∧ x < frm
def pre99 (f : Nat) (frm len n size : Int) (a : List Int) : Prop := 0 ≤ len ∧ len ≤ size ∧ size ≤ 60 ∧ 0 ≤ n ∧ n ≤ 100 ∧ 0 ≤ frm ∧ size - len < f ∧ len ≤ a.length ∧ risTo frm (a.take len.toNat)

abbrev Gr99 : TV := .fn 99 (.cons (.ref 0 1 0 0) (.cons (.ref 1 1 0 0) (.cons (.ref 2 1 0 0) (.cons (.ref 3 1 0 0) (.cons (.ref 4 1 0 0) .nil)))))
abbrev A99 : List TV := [.v I64, .ref 0 1 0 0, .ref 1 1 0 0, .ref 2 1 0 0, .ref 3 1 0 0, .ref 4 1 0 0]
def foundL (s : Srch) : List Int := s.2.2.1.take s.2.1.toNat
/-! the reference -/
end Go.Caps

set_option linter.unusedVariables false
set_option linter.unusedSimpArgs false
namespace Go.Caps
open Go Go.Ab Go.Proofs

theorem ris_at {l : List Int} (hr : ris l = true) {i j : Nat} (hj : j < i) (hi : i < l.length) : l.getD j 0 < l.getD i 0 := by
  rw [gd_at hi, gd_at (by omega)]
  exact List.pairwise_iff_getElem.1 (ris_pw hr) j i (by omega) hi hj

theorem pw_ris : ∀ {l : List Int}, l.Pairwise (· < ·) → ris l = true
  | [], _ => rfl
  | [x], _ => rfl
  | x :: y :: l, h => by
    rw [List.pairwise_cons] at h
    simp only [ris, Bool.and_eq_true, decide_eq_true_eq]
    exact ⟨h.1 y (List.mem_cons_self ..), pw_ris h.2⟩
end Go.Caps

set_option linter.unusedVariables false
set_option linter.unusedSimpArgs false
namespace Go.Caps
open Go Go.Ab Go.Proofs

theorem goal54s : con54s.goal Try.prog (spS [] []) g54s_sh [5] lm30 := by
  have e : (∀ (l : List Int), l.length ≤ 100000 → g54s l = some (l, ())) = con54s.goal Try.prog (spS [] []) g54s_sh [5] lm30 := by kernel_rfl
  rw [← e]
  intro l hl
  unfold g54s
  rw [gd_pos rfl, gd_pos (by omega), gd_pos (by omega), gd_pos (by omega)]
  have : eqO (l.length = 0) (some (([] : List Int), ())) (some (l, ())) = some (l, ()) := eqO_some.2 ⟨rfl, fun h => by rw [List.eq_nil_of_length_eq_zero h]⟩
  rw [this]
  rfl
set_option maxRecDepth 100000 in
theorem ok54s : con54s.Ok Try.prog := SCon.of_goal mixed okN okS0 con54s goal54s

/-! ### The search -/
def tryX (G : Int → List Int → Option (List Int)) (may : List Int → Int → Bool) (l : List Int) : Nat → Int → Option (List Int)
  | 0, _ => none
  | c + 1, x => match bif may l x then G (x + 1) (l ++ [x]) else none with
    | some r => some r
    | none => tryX G may l c (x + 1)
def dfsF (may : List Int → Int → Bool) (n size : Int) : Nat → Int → List Int → Option (List Int)
  | 0, _, _ => none
  | f + 1, frm, l => if (l.length : Int) = size then some l else tryX (dfsF may n size f) may l (n - (size - l.length) + 1 - frm).toNat frm

theorem tryF_ok {g : Int → Int → List Int → Srch} {G : Int → List Int → Option (List Int)} {may : List Int → Int → Bool} {len : Int} (h0 : 0 ≤ len) (hg : ∀ x a, len.toNat + 1 ≤ a.length → SOk (g x (len + 1) a) (G x (a.take (len.toNat + 1))) (a.take (len.toNat + 1))) :
    ∀ (c : Nat) (x : Int) (a : List Int), len.toNat ≤ a.length → SOk (tryF g may len c x a) (tryX G may (a.take len.toNat) c x) (a.take len.toNat)
  | 0, x, a, ha => by
    simp only [tryF, tryX, SOk, Option.isSome_none, Option.getD_none, List.length_take, Nat.min_eq_left ha, and_true, true_and]
    omega
  | c + 1, x, a, ha => by
    have hl : (a.take len.toNat).length = len.toNat := by rw [List.length_take]; omega
    have h1 : (a.take len.toNat ++ [x]).take len.toNat = a.take len.toNat := by rw [List.take_append_of_le_length (by omega), List.take_take, Nat.min_self]
    have h2 : (a.take len.toNat ++ [x]).length = len.toNat + 1 := by simp [hl]
    have h3 : (a.take len.toNat ++ [x]).take (len.toNat + 1) = a.take len.toNat ++ [x] := List.take_of_length_le (by omega)
    simp only [tryF, tryX]
    cases hb : may (a.take len.toNat) x with
    | false =>
      have := tryF_ok (may := may) h0 hg c (x + 1) a ha
      simpa using this
    | true =>
      have hs := hg (x + 1) (a.take len.toNat ++ [x]) (by omega)
      rw [h3] at hs
      simp only [if_true, cond_true]
      cases hr : G (x + 1) (a.take len.toNat ++ [x]) with
      | some r =>
        rw [hr] at hs
        have e1 : (g (x + 1) (len + 1) (a.take len.toNat ++ [x])).1 = true := hs.1
        rw [if_pos e1]
        exact hs
      | none =>
        rw [hr] at hs
        have e1 : (g (x + 1) (len + 1) (a.take len.toNat ++ [x])).1 = false := hs.1
        have e3 := hs.2.2
        simp only [Option.getD_none, h2] at e3
        have hle := hs.le
        simp only [Option.getD_none, h2] at hle
        rw [if_neg (by rw [e1]; simp)]
        have := tryF_ok (may := may) h0 hg c (x + 1) (g (x + 1) (len + 1) (a.take len.toNat ++ [x])).2.2.1 (by omega)
        have e4 : (g (x + 1) (len + 1) (a.take len.toNat ++ [x])).2.2.1.take len.toNat = a.take len.toNat := by
          have := congrArg (List.take len.toNat) e3
          rw [List.take_take, h1, Nat.min_eq_left (by omega)] at this
          exact this
        rw [e4] at this
        exact this

theorem growF_ok {may : List Int → Int → Bool} {n size : Int} : ∀ (f : Nat) (frm len : Int) (a : List Int), 0 ≤ len → len.toNat ≤ a.length → SOk (growF may n size f frm len a) (dfsF may n size f frm (a.take len.toNat)) (a.take len.toNat)
  | 0, frm, len, a, h0, ha => by
    simp only [growF, dfsF, SOk, Option.isSome_none, Option.getD_none, List.length_take, Nat.min_eq_left ha, and_true, true_and]
    omega
  | f + 1, frm, len, a, h0, ha => by
    have hl : (a.take len.toNat).length = len.toNat := by rw [List.length_take]; omega
    simp only [growF, dfsF]
    by_cases hn : len = size
    · rw [if_pos hn, if_pos (by omega)]
      simp only [SOk, Option.isSome_some, Option.getD_some, hl, true_and]
      exact ⟨by omega, trivial⟩
    · rw [if_neg hn, if_neg (by omega)]
      have e : ((a.take len.toNat).length : Int) = len := by omega
      rw [e]
      refine tryF_ok h0 (fun x b hb => ?_) _ _ _ ha
      have := growF_ok (may := may) (n := n) (size := size) f x (len + 1) b (by omega) (by omega)
      rwa [show (len + 1).toNat = len.toNat + 1 by omega] at this

theorem tryF_loop {S X : Type} {step : S → Option (Lp S X)} (st : Int → List Int → S) (out : Srch → X) {g : Int → Int → List Int → Srch} {may : List Int → Int → Bool} {len frm C : Int} {l : List Int} (hl : l.length = len.toNat)
    (hbad : ∀ (x : Int) (a : List Int), frm ≤ x → x < C → a.take len.toNat = l → may l x = false → step (st x a) = some (.go (st (x + 1) a)))
    (hok : ∀ (x : Int) (a : List Int), frm ≤ x → x < C → a.take len.toNat = l → may l x = true → (g (x + 1) (len + 1) (l ++ [x])).1 = true → step (st x a) = some (.out (out (g (x + 1) (len + 1) (l ++ [x])))))
    (hno : ∀ (x : Int) (a : List Int), frm ≤ x → x < C → a.take len.toNat = l → may l x = true → (g (x + 1) (len + 1) (l ++ [x])).1 = false → step (st x a) = some (.go (st (x + 1) (g (x + 1) (len + 1) (l ++ [x])).2.2.1)))
    (hend : ∀ x a, C ≤ x → a.take len.toNat = l → step (st x a) = some (.out (out (false, len, a, ()))))
    (hg : ∀ (x : Int), frm ≤ x → x < C → (g (x + 1) (len + 1) (l ++ [x])).1 = false → (g (x + 1) (len + 1) (l ++ [x])).2.2.1.take len.toNat = l) :
    ∀ (c : Nat) (x : Int) (a : List Int), c = (C - x).toNat → frm ≤ x → a.take len.toNat = l → whileO step (st x a) = some (out (tryF g may len c x a))
  | 0, x, a, hx, hf, ha => whileO_out (hend x a (by omega) ha)
  | c + 1, x, a, hx, hf, ha => by
    simp only [tryF, ha]
    cases hb : may l x with
    | false =>
      rw [whileO_go (hbad x a hf (by omega) ha hb), if_neg (by simp)]
      exact tryF_loop st out hl hbad hok hno hend hg c (x + 1) _ (by omega) (by omega) ha
    | true =>
      rw [if_pos rfl]
      cases hr : (g (x + 1) (len + 1) (l ++ [x])).1 with
      | true => rw [if_pos rfl]; exact whileO_out (hok x a hf (by omega) ha hb hr)
      | false =>
        rw [if_neg (by simp), whileO_go (hno x a hf (by omega) ha hb hr)]
        exact tryF_loop st out hl hbad hok hno hend hg c (x + 1) _ (by omega) (by omega) (hg x hf (by omega) hr)

theorem ris_snoc {l : List Int} {x : Int} (h : ris l = true) (hx : ∀ y ∈ l, y < x) : ris (l ++ [x]) = true :=
  pw_ris (List.pairwise_append.2 ⟨ris_pw h, List.pairwise_singleton .., fun a ha b hb => by rw [List.mem_singleton.1 hb]; exact hx a ha⟩)
theorem risTo_snoc {frm x : Int} {l : List Int} (h : risTo frm l) (h0 : 0 ≤ frm) (hx : frm ≤ x) : risTo (x + 1) (l ++ [x]) :=
  ⟨ris_snoc h.1 fun y hy => by have := h.2 y hy; omega, fun y hy => by
    rcases List.mem_append.1 hy with hy | hy
    · have := h.2 y hy; omega
    · rw [List.mem_singleton.1 hy]; omega⟩
/-- What is known when the search goes on. -/
theorem pre_next {f : Nat} {frm len n size x : Int} {a : List Int} (h : pre99 (f + 1) frm len n size a) (hk : len ≠ size) (hx : frm ≤ x) : pre99 f (x + 1) (len + 1) n size (a.take len.toNat ++ [x]) := by
  obtain ⟨h1, h2, h3, h4, h5, h6, h7, h8, h9⟩ := h
  have hl : (a.take len.toNat).length = len.toNat := by rw [List.length_take]; omega
  refine ⟨by omega, by omega, h3, h4, h5, by omega, by omega, by simp only [List.length_append, hl, List.length_singleton]; omega, ?_⟩
  rw [show (len + 1).toNat = len.toNat + 1 by omega, List.take_of_length_le (by simp [hl])]
  exact risTo_snoc h9 h6 hx
end Go.Caps

set_option linter.unusedVariables false
set_option linter.unusedSimpArgs false
namespace Go.Caps
open Go Go.Ab Go.Proofs

/-- What the whole search finds. -/
theorem dfs_len {may : List Int → Int → Bool} {n size : Int} : ∀ (f : Nat) (frm : Int) (l r : List Int), dfsF may n size f frm l = some r → (r.length : Int) = size
  | 0, frm, l, r, h => by simp [dfsF] at h
  | f + 1, frm, l, r, h => by
    simp only [dfsF] at h
    split at h
    · rename_i hn; cases h; exact hn
    · have key : ∀ (c : Nat) (x : Int), tryX (dfsF may n size f) may l c x = some r → (r.length : Int) = size := by
        intro c
        induction c with
        | zero => intro x h; simp [tryX] at h
        | succ c ih =>
          intro x h
          simp only [tryX] at h
          split at h
          · rename_i q hq
            cases h
            cases hb : may l x with
            | false => rw [hb] at hq; simp at hq
            | true => rw [hb] at hq; exact dfs_len f _ _ _ hq
          · exact ih _ h
      exact key _ _ h
theorem sr_ok {may : List Int → Int → Bool} {n size : Int} : SOk (growF may n size 62 0 0 []) (dfsF may n size 62 0 []) [] := by
  have := growF_ok (may := may) (n := n) (size := size) 62 0 0 [] (by omega) (by simp)
  simpa using this
theorem sr_none {may : List Int → Int → Bool} {n size : Int} (h : dfsF may n size 62 0 [] = none) : (growF may n size 62 0 0 []).1 = false := by
  have := (sr_ok (may := may) (n := n) (size := size)).1
  rw [h] at this; exact this
theorem sr_some {may : List Int → Int → Bool} {n size : Int} {r : List Int} (h : dfsF may n size 62 0 [] = some r) : (growF may n size 62 0 0 []).1 = true ∧ foundL (growF may n size 62 0 0 []) = r ∧ (growF may n size 62 0 0 []).2.1.toNat = r.length ∧ r.length ≤ (growF may n size 62 0 0 []).2.2.1.length := by
  have hs := sr_ok (may := may) (n := n) (size := size)
  rw [h] at hs
  have hle := hs.le
  obtain ⟨h1, h2, h3⟩ := hs
  simp only [Option.getD_some] at h2 h3 hle
  refine ⟨h1, ?_, by rw [h2]; simp, hle⟩
  unfold foundL
  rw [h2]
  simpa using h3

end Go.Caps

set_option linter.unusedVariables false
set_option linter.unusedSimpArgs false
namespace Go.Caps
open Go Go.Ab Go.Proofs

/-! ### What a search finds -/
theorem tryX_some {G : Int → List Int → Option (List Int)} {may : List Int → Int → Bool} {l r : List Int} : ∀ (c : Nat) (x : Int), tryX G may l c x = some r → ∃ y, x ≤ y ∧ y < x + c ∧ may l y = true ∧ G (y + 1) (l ++ [y]) = some r ∧ ∀ z, x ≤ z → z < y → may l z = true → G (z + 1) (l ++ [z]) = none
  | 0, x, h => by simp [tryX] at h
  | c + 1, x, h => by
    simp only [tryX] at h
    split at h
    · rename_i q hq
      cases h
      cases hb : may l x with
      | false => rw [hb] at hq; simp at hq
      | true => rw [hb] at hq; exact ⟨x, by omega, by omega, hb, hq, fun z h1 h2 => by omega⟩
    · rename_i hq
      obtain ⟨y, h1, h2, h3, h4, h5⟩ := tryX_some c (x + 1) h
      refine ⟨y, by omega, by omega, h3, h4, fun z z1 z2 z3 => ?_⟩
      by_cases hz : z = x
      · subst hz
        rw [z3] at hq; simpa using hq
      · exact h5 z (by omega) z2 z3
theorem tryX_none {G : Int → List Int → Option (List Int)} {may : List Int → Int → Bool} {l : List Int} : ∀ (c : Nat) (x : Int), tryX G may l c x = none → ∀ y, x ≤ y → y < x + c → may l y = true → G (y + 1) (l ++ [y]) = none
  | 0, x, h, y, h1, h2, h3 => by omega
  | c + 1, x, h, y, h1, h2, h3 => by
    simp only [tryX] at h
    split at h
    · cases h
    · rename_i hq
      by_cases hy : y = x
      · subst hy
        rw [h3] at hq; simpa using hq
      · exact tryX_none c (x + 1) h y (by omega) (by omega) h3

theorem take_snoc {w : List Int} {m : Nat} (h : m < w.length) : w.take (m + 1) = w.take m ++ [w.getD m 0] := by
  rw [List.take_add_one, List.getD_eq_getElem?_getD, List.getElem?_eq_getElem h]; rfl

theorem ris_room {w : List Int} (hr : ris w = true) {n : Int} (hn : ∀ x ∈ w, x < n) : ∀ (d m : Nat), m + d + 1 = w.length → w.getD m 0 ≤ n - 1 - d
  | 0, m, h => by have := hn _ (mem_at (l := w) (i := m) (by omega)); omega
  | d + 1, m, h => by
    have h1 := ris_room hr hn d (m + 1) (by omega)
    have h2 := ris_at hr (show m < m + 1 by omega) (by omega)
    omega

/-- If there is a list, one is found. -/
theorem dfs_ne {may : List Int → Int → Bool} {n size : Int} {w : List Int} (hw : (w.length : Int) = size) (hr : ris w = true) (hn : ∀ x ∈ w, 0 ≤ x ∧ x < n) :
    ∀ (f m : Nat) (frm : Int), m ≤ w.length → w.length - m < f → (∀ i, m ≤ i → i < w.length → may (w.take i) (w.getD i 0) = true) → (m < w.length → frm ≤ w.getD m 0) → dfsF may n size f frm (w.take m) ≠ none
  | 0, m, frm, hm, hf, _, _ => by omega
  | f + 1, m, frm, hm, hf, hmay, hfrm => fun h => by
    have hl : (w.take m).length = m := by rw [List.length_take]; omega
    simp only [dfsF] at h
    split at h
    · cases h
    · rename_i hne
      have hlt : m < w.length := by omega
      have hroom := ris_room hr (fun x hx => (hn x hx).2) (w.length - m - 1) m (by omega)
      have hf1 := hfrm hlt
      have := tryX_none _ _ h (w.getD m 0) hf1 (by omega) (hmay m (Nat.le_refl _) hlt)
      rw [← take_snoc hlt] at this
      exact dfs_ne hw hr hn f (m + 1) _ (by omega) (by omega) (fun i h1 h2 => hmay i (by omega) h2) (fun h => by have := ris_at hr (show m < m + 1 by omega) h; omega) this

/-! ### The reference's -/
theorem snoc_len {l : List Int} {x : Int} : (l ++ [x]).length = l.length + 1 := by simp

theorem dfsF_succ {may : List Int → Int → Bool} {n size frm : Int} {f : Nat} {l : List Int} : dfsF may n size (f + 1) frm l = if (l.length : Int) = size then some l else tryX (dfsF may n size f) may l (n - (size - l.length) + 1 - frm).toNat frm := rfl
end Go.Caps

set_option linter.unusedVariables false
set_option linter.unusedSimpArgs false
namespace Go.Caps
open Go Go.Ab Go.Proofs

/-! ### The shortest -/
end Go.Caps
