/- Greatest slices: contracts. -/
import Derived.Test.YtiiiojjaphckbaaXQ
import Derived.Test.YtiiiojjaphckbaaSS
set_option linter.unusedVariables false
set_option linter.unusedSimpArgs false
namespace Go.Caps
open Go Go.Ab Go.Proofs

/-! Long: numbers without progressions. -/
def mostL (S : Int → Srch) : Nat → List Int → List Int
  | 0, best => best
  | f + 1, best => if (S (best.length + 1)).1 = true then mostL S f (foundL (S (best.length + 1))) else best
/-! Most: numbers with different differences. -/
/-! Wide: numbers without sums. -/
/-! the law Mirrored -/
end Go.Caps

set_option linter.unusedVariables false
set_option linter.unusedSimpArgs false
namespace Go.Caps
open Go Go.Ab Go.Proofs

/-! ### The most -/
/-- .. and it stops where no more are. -/
theorem most_is {S : Int → Srch} {N : Nat} (hlen : ∀ m : Int, (S m).1 = true → ((foundL (S m)).length : Int) = m ∧ m ≤ N) : ∀ (f : Nat) (b : List Int), b.length ≤ N → N - b.length < f → (b = [] ∨ ((S b.length).1 = true ∧ b = foundL (S b.length))) →
    (mostL S f b = [] ∨ ((S (mostL S f b).length).1 = true ∧ mostL S f b = foundL (S (mostL S f b).length))) ∧ (S ((mostL S f b).length + 1)).1 = false ∧ (mostL S f b).length ≤ N
  | 0, b, hb, hf, _ => by omega
  | f + 1, b, hb, hf, h => by
    simp only [mostL]
    cases hs : (S (b.length + 1)).1 with
    | false => rw [if_neg (by simp)]; exact ⟨h, hs, hb⟩
    | true =>
      obtain ⟨h1, h2⟩ := hlen _ hs
      rw [if_pos rfl]
      exact most_is hlen f _ (by omega) (by omega) (.inr (by rw [h1]; exact ⟨hs, rfl⟩))

theorem dfs_size {may : List Int → Int → Bool} {n m : Int} (hm : 0 ≤ m) {r : List Int} {f : Nat} (h : dfsF may n m f 0 [] = some r) (hn : 0 ≤ n) : m ≤ n := by
  have key : ∀ (f : Nat) (frm : Int) (l r : List Int), dfsF may n m f frm l = some r → (l.length : Int) ≤ m → m - l.length ≤ n - frm ∨ (l.length : Int) = m := by
    intro f frm l r h hl
    cases f with
    | zero => simp [dfsF] at h
    | succ f =>
      simp only [dfsF] at h
      split at h
      · right; assumption
      · left
        rcases Nat.eq_zero_or_pos (n - (m - (l.length : Int)) + 1 - frm).toNat with h0 | h0
        · rw [h0] at h; simp [tryX] at h
        · omega
  rcases key f 0 [] r h (by simpa using hm) with h | h <;> simp at h <;> omega
theorem sr_len {may : List Int → Int → Bool} {n : Int} {N : Nat} (hn : 0 ≤ n) (hN : n ≤ N) {m : Int} (hm : 0 ≤ m) (h : (growF may n m 62 0 0 []).1 = true) : ((foundL (growF may n m 62 0 0 [])).length : Int) = m ∧ m ≤ N := by
  cases hd : dfsF may n m 62 0 [] with
  | none => rw [sr_none hd] at h; cases h
  | some r =>
    obtain ⟨s1, s2, s3, s4⟩ := sr_some hd
    have := dfs_size hm hd hn
    rw [s2]
    exact ⟨dfs_len _ _ _ _ hd, by omega⟩
/-- A negative number of numbers is not found. -/
theorem sr_neg {may : List Int → Int → Bool} {n : Int} (hn : 0 ≤ n) : ∀ (f : Nat) (frm m : Int) (l : List Int), m < 0 → dfsF may n m f frm l = none
  | 0, _, _, _, _ => rfl
  | f + 1, frm, m, l, hm => by
    simp only [dfsF]
    rw [if_neg (by omega)]
    cases ht : tryX (dfsF may n m f) may l (n - (m - (l.length : Int)) + 1 - frm).toNat frm with
    | none => rfl
    | some r =>
      have key : ∀ (c : Nat) (x : Int), tryX (dfsF may n m f) may l c x = none := by
        intro c
        induction c with
        | zero => intro x; rfl
        | succ c ih =>
          intro x
          simp only [tryX, sr_neg hn f _ m _ hm, ih]
          cases may l x <;> rfl
      rw [key] at ht; cases ht
theorem sr_len' {may : List Int → Int → Bool} {n : Int} {N : Nat} (hn : 0 ≤ n) (hN : n ≤ N) (m : Int) (h : (growF may n m 62 0 0 []).1 = true) : ((foundL (growF may n m 62 0 0 [])).length : Int) = m ∧ m ≤ N := by
  rcases Int.lt_or_le m 0 with hm | hm
  · rw [sr_none (sr_neg hn 62 0 m [] hm)] at h; cases h
  · exact sr_len hn hN hm h

end Go.Caps

set_option linter.unusedVariables false
set_option linter.unusedSimpArgs false
namespace Go.Caps
open Go Go.Ab Go.Proofs

def stepOk (l : List Int) : Prop := ∀ a ∈ l, ∀ b ∈ l, a < b → 2 * b - a ∉ l
theorem stepsF_iff {l : List Int} (hr : ris l = true) : stepsF l = true ↔ stepOk l := by
  unfold stepsF stepOk
  simp only [List.all_eq_true, List.mem_range, Bool.not_eq_true', List.contains_eq_mem, decide_eq_false_iff_not]
  constructor
  · intro h a ha b hb hab
    obtain ⟨i, hi, rfl⟩ := List.getElem_of_mem ha
    obtain ⟨j, hj, rfl⟩ := List.getElem_of_mem hb
    have := h j hj i (ris_lt hr hi hj hab)
    rwa [gd_at hi, gd_at hj] at this
  · intro h j hj i hi
    exact h _ (mem_at (by omega)) _ (mem_at hj) (ris_at hr hi hj)

/-- So many numbers below n without progressions. -/
def ApEx (n : Int) (s : Nat) : Prop := ∃ w : List Int, w.length = s ∧ ris w = true ∧ (∀ x ∈ w, 0 ≤ x ∧ x < n) ∧ stepsF w = true

theorem steps_take {w : List Int} (hr : ris w = true) (h : stepsF w = true) (m : Nat) : stepsF (w.take m) = true :=
  (stepsF_iff (ris_take hr)).2 fun a ha b hb hab hm => (stepsF_iff hr).1 h a (List.mem_of_mem_take ha) b (List.mem_of_mem_take hb) hab (List.mem_of_mem_take hm)
theorem ApEx.le {n : Int} {s t : Nat} (h : ApEx n s) (ht : t ≤ s) : ApEx n t := by
  obtain ⟨w, h1, h2, h3, h4⟩ := h
  exact ⟨w.take t, by rw [List.length_take]; omega, ris_take h2, fun x hx => h3 x (List.mem_of_mem_take hx), steps_take h2 h4 t⟩
theorem ApEx.up {n m : Int} {s : Nat} (h : ApEx n s) (hm : n ≤ m) : ApEx m s := by
  obtain ⟨w, h1, h2, h3, h4⟩ := h
  exact ⟨w, h1, h2, fun x hx => by have := h3 x hx; omega, h4⟩
end Go.Caps

set_option linter.unusedVariables false
set_option linter.unusedSimpArgs false
namespace Go.Caps
open Go Go.Ab Go.Proofs

end Go.Caps

set_option linter.unusedVariables false
set_option linter.unusedSimpArgs false
namespace Go.Caps
open Go Go.Ab Go.Proofs

/-- One list comes before another one, or is it. -/
def LexLe (r w : List Int) : Prop := r = w ∨ ∃ m, m < r.length ∧ m < w.length ∧ r.take m = w.take m ∧ r.getD m 0 < w.getD m 0
/-- What comes first is found first. -/
theorem dfs_first {may : List Int → Int → Bool} {n size : Int} {w : List Int} (hw : (w.length : Int) = size) (hr : ris w = true) (hn : ∀ x ∈ w, 0 ≤ x ∧ x < n) (hmay : ∀ i, i < w.length → may (w.take i) (w.getD i 0) = true) :
    ∀ (f m : Nat) (frm : Int) (r : List Int), m ≤ w.length → w.length - m < f → (m < w.length → frm ≤ w.getD m 0) → dfsF may n size f frm (w.take m) = some r → (∃ t, r = w.take m ++ t) ∧ LexLe r w
  | 0, m, frm, r, hm, hf, _, _ => by omega
  | f + 1, m, frm, r, hm, hf, hfrm, h => by
    have hl : (w.take m).length = m := by rw [List.length_take]; omega
    rw [dfsF_succ] at h
    split at h
    · rename_i he
      cases h
      refine ⟨⟨[], by simp⟩, .inl (List.take_of_length_le (by omega))⟩
    · rename_i hne
      have hlt : m < w.length := by omega
      obtain ⟨y, y1, y2, y3, y4, y5⟩ := tryX_some _ _ h
      have hz := hfrm hlt
      rcases Int.lt_trichotomy y (w.getD m 0) with hy | hy | hy
      · have hlen := dfs_len _ _ _ _ y4
        -- it begins so
        have pre : ∀ (f : Nat) (frm : Int) (l r : List Int), dfsF may n size f frm l = some r → ∃ t, r = l ++ t := by
          intro f
          induction f with
          | zero => intro frm l r h; simp [dfsF] at h
          | succ f ih =>
            intro frm l r h
            rw [dfsF_succ] at h
            split at h
            · cases h; exact ⟨[], by simp⟩
            · obtain ⟨y, _, _, _, y4, _⟩ := tryX_some _ _ h
              obtain ⟨t, ht⟩ := ih _ _ _ y4
              exact ⟨[y] ++ t, by rw [ht, List.append_assoc]⟩
        obtain ⟨t, ht⟩ := pre _ _ _ _ y4
        refine ⟨⟨[y] ++ t, by rw [ht, List.append_assoc]⟩, .inr ⟨m, by rw [ht]; simp [hl], hlt, ?_, ?_⟩⟩
        · rw [ht, List.append_assoc, List.take_append_of_le_length (by omega), List.take_take, Nat.min_self]
        · rw [ht, List.append_assoc, List.getD_eq_getElem?_getD, List.getElem?_append_right (by omega), hl, Nat.sub_self]
          exact hy
      · subst hy
        rw [← take_snoc hlt] at y4
        obtain ⟨⟨t, ht⟩, hle⟩ := dfs_first hw hr hn hmay f (m + 1) _ r (by omega) (by omega) (fun h => by have := ris_at hr (show m < m + 1 by omega) h; omega) y4
        exact ⟨⟨[w.getD m 0] ++ t, by rw [ht, take_snoc hlt, List.append_assoc]⟩, hle⟩
      · have := y5 (w.getD m 0) hz hy (hmay m hlt)
        rw [← take_snoc hlt] at this
        exact absurd this (dfs_ne hw hr hn f (m + 1) _ (by omega) (by omega) (fun i _ h2 => hmay i h2) (fun h => by have := ris_at hr (show m < m + 1 by omega) h; omega))

/-- What a search looks for: a property that beginnings have, too. -/
structure GoodQ (may : List Int → Int → Bool) (good : List Int → Bool) (n : Int) : Prop where
  eq : ∀ l x, may l x = good (l ++ [x])
  her : ∀ w k, ris w = true → (∀ x ∈ w, 0 ≤ x ∧ x < n) → good w = true → good (w.take k) = true
  nil : good [] = true
/-- A list that is looked for. -/
def Val (good : List Int → Bool) (n : Int) (w : List Int) : Prop := ris w = true ∧ (∀ x ∈ w, 0 ≤ x ∧ x < n) ∧ good w = true

section
variable {may : List Int → Int → Bool} {good : List Int → Bool} {n : Int}
theorem GoodQ.may_at (g : GoodQ may good n) {w : List Int} (h : Val good n w) {i : Nat} (hi : i < w.length) : may (w.take i) (w.getD i 0) = true := by
  rw [g.eq, ← take_snoc hi]
  exact g.her w _ h.1 h.2.1 h.2.2
theorem GoodQ.valid (g : GoodQ may good n) {s : Nat} {r : List Int} {f : Nat} (h : dfsF may n s f 0 [] = some r) : r.length = s ∧ Val good n r := by
  obtain ⟨h1, h2, h3, h4⟩ := dfs_sound0 (by omega) h
  refine ⟨by omega, h2, h3, ?_⟩
  cases s with
  | zero =>
    have : r = [] := List.eq_nil_of_length_eq_zero (by omega)
    rw [this]; exact g.nil
  | succ s =>
    have := h4 s (by omega)
    rw [g.eq, ← take_snoc (by omega), List.take_of_length_le (by omega)] at this
    exact this
theorem GoodQ.ne (g : GoodQ may good n) {w : List Int} (h : Val good n w) (hs : w.length ≤ 60) : dfsF may n w.length 62 0 [] ≠ none := by
  have := dfs_ne (may := may) (n := n) (size := (w.length : Int)) (w := w) rfl h.1 h.2.1 62 0 0 (by omega) (by omega) (fun i _ hi => g.may_at h hi) (fun hh => (h.2.1 _ (mem_at hh)).1)
  rwa [List.take_zero] at this
theorem GoodQ.first (g : GoodQ may good n) {w r : List Int} (h : Val good n w) (hs : w.length ≤ 60) (hr : dfsF may n w.length 62 0 [] = some r) : LexLe r w := by
  have := dfs_first (may := may) (n := n) (size := (w.length : Int)) (w := w) rfl h.1 h.2.1 (fun i hi => g.may_at h hi) 62 0 0 r (by omega) (by omega) (fun hh => (h.2.1 _ (mem_at hh)).1) (by rw [List.take_zero]; exact hr)
  exact this.2
theorem Val.take (g : GoodQ may good n) {w : List Int} (h : Val good n w) (k : Nat) : Val good n (w.take k) := ⟨ris_take h.1, fun x hx => h.2.1 x (List.mem_of_mem_take hx), g.her w k h.1 h.2.1 h.2.2⟩
theorem Val.len {w : List Int} (h : Val good n w) (hn : 0 ≤ n) : (w.length : Int) ≤ n := by
  have := ris_short (n := n - 1) (by omega) h.1 (fun x hx => by have := h.2.1 x hx; omega)
  omega

/-- The most. -/
theorem GoodQ.most (g : GoodQ may good n) (h0 : 0 ≤ n) (h50 : n ≤ 50) {M : List Int} (hM : M = mostL (fun s => growF may n s 62 0 0 []) 62 []) : Val good n M ∧ (∀ w, Val good n w → w.length ≤ M.length ∧ (w.length = M.length → LexLe M w)) ∧ M.length ≤ 50 := by
  obtain ⟨h1, h2, h3⟩ := most_is (S := fun s => growF may n s 62 0 0 []) (N := 50) (fun m h => sr_len' h0 (by omega) m h) 62 [] (by simp) (by simp) (.inl rfl)
  rw [← hM] at h1 h2 h3
  have hval : Val good n M := by
    rcases h1 with h1 | ⟨h1, h1'⟩
    · rw [h1]; exact ⟨rfl, (fun x hx => nomatch hx), g.nil⟩
    · cases hd : dfsF may n M.length 62 0 [] with
      | none => rw [sr_none hd] at h1; cases h1
      | some r =>
        obtain ⟨s1, s2, _⟩ := sr_some hd
        rw [h1', s2]
        exact (g.valid hd).2
  refine ⟨hval, fun w hw => ?_, h3⟩
  have hwl := hw.len h0
  have hle : w.length ≤ M.length := by
    rcases Nat.lt_or_ge M.length w.length with hlt | hle
    · exfalso
      have hv := hw.take g (M.length + 1)
      have hl : (w.take (M.length + 1)).length = M.length + 1 := by rw [List.length_take]; omega
      have := g.ne hv (by omega)
      rw [hl] at this
      cases hd : dfsF may n ((M.length + 1 : Nat) : Int) 62 0 [] with
      | none => exact this hd
      | some r =>
        have := (sr_some hd).1
        rw [Int.natCast_add] at this
        exact absurd this (by rw [show (((1 : Nat) : Int)) = 1 from rfl, h2]; simp)
    · exact hle
  refine ⟨hle, fun he => ?_⟩
  rcases h1 with h1 | ⟨h1, h1'⟩
  · rw [h1] at he ⊢
    exact .inl (List.eq_nil_of_length_eq_zero he).symm
  · cases hd : dfsF may n M.length 62 0 [] with
    | none => rw [sr_none hd] at h1; cases h1
    | some r =>
      obtain ⟨s1, s2, _⟩ := sr_some hd
      rw [h1', s2]
      rw [← he] at hd
      exact g.first hw (by omega) hd
end
end Go.Caps

set_option linter.unusedVariables false
set_option linter.unusedSimpArgs false
namespace Go.Caps
open Go Go.Ab Go.Proofs

theorem difOk.sub {n : Int} {l m : List Int} (h : difOk n l) (hs : ∀ x ∈ m, x ∈ l) : difOk n m := fun a1 h1 a2 h2 b1 h3 b2 h4 => h a1 (hs _ h1) a2 (hs _ h2) b1 (hs _ h3) b2 (hs _ h4)
/-! ### How many -/
/-! ### Moved -/
theorem sort_ris {l : List Int} (h : l.Nodup) : ris (sortL l) = true := by
  refine pw_ris ?_
  have h1 := sortL_pw (l := l)
  have h2 : (sortL l).Nodup := (sortL_perm (l := l)).nodup_iff.2 h
  exact (h1.and h2).imp fun ⟨a, b⟩ => by omega
theorem mem_sort {l : List Int} {x : Int} : x ∈ sortL l ↔ x ∈ l := (sortL_perm (l := l)).mem_iff
end Go.Caps

set_option linter.unusedVariables false
set_option linter.unusedSimpArgs false
namespace Go.Caps
open Go Go.Ab Go.Proofs

/-! ### At most so many -/
/-- Sums of one number and those of a set, modulo n. -/
def rotM (n m y : Nat) : Nat := (m <<< y) ||| (m >>> (n - y))
theorem rot_bit {n m y d : Nat} (hy : y < n) (hd : d < n) (hm : ∀ z, m.testBit z = true → z < n) (h : (rotM n m y).testBit d = true) : ∃ z, m.testBit z = true ∧ (z + y) % n = d := by
  unfold rotM at h
  rw [Nat.testBit_or, Bool.or_eq_true, Nat.testBit_shiftLeft, Bool.and_eq_true, decide_eq_true_eq, Nat.testBit_shiftRight] at h
  rcases h with ⟨h1, h2⟩ | h
  · exact ⟨d - y, h2, by rw [Nat.sub_add_cancel h1, Nat.mod_eq_of_lt hd]⟩
  · refine ⟨n - y + d, h, ?_⟩
    rw [show n - y + d + y = d + n by omega, Nat.add_mod_right, Nat.mod_eq_of_lt hd]
/-- Whether so many more numbers from x on can be added to those of m; none of forb. -/
def sfB (n : Nat) : Nat → Nat → Nat → Nat → Bool
  | 0, _, _, _ => true
  | need + 1, x, m, forb => (List.range' x (n - need - x)).any fun y => bif forb.testBit y then false else force' (m ||| 1 <<< y) fun m' => force' (forb ||| (rotM n m' y ||| rotM n m' (n - y))) fun f' => bif Nat.beq (m' &&& f') 0 then sfB n need (y + 1) m' f' else false

/-- Free of sums, with numbers. -/
def SF (n : Nat) (w : List Nat) : Prop := w.Pairwise (· < ·) ∧ (∀ x ∈ w, x < n) ∧ ∀ a ∈ w, ∀ b ∈ w, (a + b) % n ∉ w

theorem sfB_ok {n : Nat} {w : List Nat} (h : SF n w) : ∀ (need i x m forb : Nat), i + need = w.length → (∀ j, i ≤ j → (hj : j < w.length) → x ≤ w[j]) → (∀ z, m.testBit z = true ↔ z ∈ w.take i) → (∀ z ∈ w, forb.testBit z = false) → sfB n need x m forb = true
  | 0, _, _, _, _, _, _, _, _ => rfl
  | need + 1, i, x, m, forb, hl, hx, hm, hf => by
    obtain ⟨h1, h2, h3⟩ := h
    have hi : i < w.length := by omega
    have hyw : w[i] ∈ w := List.getElem_mem hi
    have hyn := h2 _ hyw
    have room : ∀ (d j : Nat), (hj : j + d < w.length) → w[j] + d ≤ w[j + d] := by
      intro d
      induction d with
      | zero => intro j hj; simp
      | succ d ih =>
        intro j hj
        have a := ih j (by omega)
        have b := List.pairwise_iff_getElem.1 h1 (j + d) (j + (d + 1)) (by omega) (by omega) (by omega)
        omega
    have hr := room need i (by omega)
    have hlast := h2 _ (List.getElem_mem (show i + need < w.length by omega))
    simp only [sfB, List.any_eq_true, force_eq']
    refine ⟨w[i], List.mem_range'_1.2 ⟨hx i (Nat.le_refl _) hi, by have := hx i (Nat.le_refl _) hi; omega⟩, ?_⟩
    rw [hf _ hyw, cond_false]
    have hm' : ∀ z, (m ||| 1 <<< w[i]).testBit z = true ↔ z ∈ w.take (i + 1) := fun z => by
      rw [Nat.testBit_or, Bool.or_eq_true, hm, Nat.one_shiftLeft, Nat.testBit_two_pow, decide_eq_true_eq, List.take_succ_eq_append_getElem hi, List.mem_append, List.mem_singleton]
      exact or_congr Iff.rfl eq_comm
    have hm2 : ∀ z, (m ||| 1 <<< w[i]).testBit z = true → z ∈ w := fun z hz => List.mem_of_mem_take ((hm' z).1 hz)
    have hf' : ∀ z ∈ w, (forb ||| (rotM n (m ||| 1 <<< w[i]) w[i] ||| rotM n (m ||| 1 <<< w[i]) (n - w[i]))).testBit z = false := fun z hz => by
      rw [Bool.eq_false_iff]
      intro hb
      rw [Nat.testBit_or, Nat.testBit_or, Bool.or_eq_true, Bool.or_eq_true, hf z hz] at hb
      rcases hb with hb | hb | hb
      · cases hb
      · obtain ⟨u, u1, u2⟩ := rot_bit hyn (h2 z hz) (fun q hq => h2 q (hm2 q hq)) hb
        exact h3 u (hm2 u u1) _ hyw (u2 ▸ hz)
      · by_cases h0 : w[i] = 0
        · have := h3 _ hyw _ hyw
          rw [h0] at this
          simp only [Nat.add_zero, Nat.zero_mod] at this
          exact this (h0 ▸ hyw)
        · obtain ⟨u, u1, u2⟩ := rot_bit (show n - w[i] < n by omega) (h2 z hz) (fun q hq => h2 q (hm2 q hq)) hb
          have hu := h2 u (hm2 u u1)
          have : (z + w[i]) % n = u := by
            rw [← u2, Nat.mod_add_mod, show u + (n - w[i]) + w[i] = u + n by omega, Nat.add_mod_right, Nat.mod_eq_of_lt hu]
          exact h3 z hz _ hyw (this ▸ hm2 u u1)
    have hz : (m ||| 1 <<< w[i]) &&& (forb ||| (rotM n (m ||| 1 <<< w[i]) w[i] ||| rotM n (m ||| 1 <<< w[i]) (n - w[i]))) = 0 := by
      refine Nat.eq_of_testBit_eq fun d => ?_
      rw [Nat.zero_testBit, Nat.testBit_and, Bool.eq_false_iff]
      intro hb
      rw [Bool.and_eq_true] at hb
      rw [hf' d (hm2 d hb.1)] at hb
      cases hb.2
    rw [hz]
    show sfB n need (w[i] + 1) _ _ = true
    refine sfB_ok ⟨h1, h2, h3⟩ need (i + 1) _ _ _ (by omega) (fun j hj hjw => ?_) hm' hf'
    have := List.pairwise_iff_getElem.1 h1 i j hi hjw (by omega)
    omega
theorem SF.lt {n : Nat} {w : List Nat} (h : SF n w) {k : Nat} (hk : sfB n k 0 0 0 = false) : w.length < k := by
  rcases Nat.lt_or_ge w.length k with hlt | hge
  · exact hlt
  · have ht : SF n (w.take k) := ⟨h.1.sublist (List.take_sublist _ _), fun x hx => h.2.1 x (List.mem_of_mem_take hx), fun a ha b hb hm => h.2.2 a (List.mem_of_mem_take ha) b (List.mem_of_mem_take hb) (List.mem_of_mem_take hm)⟩
    have := sfB_ok ht k 0 0 0 0 (by rw [List.length_take]; omega) (fun j _ _ => Nat.zero_le _) (fun z => by simp) (fun z _ => by simp)
    rw [hk] at this; cases this
end Go.Caps

set_option linter.unusedVariables false
set_option linter.unusedSimpArgs false
namespace Go.Caps
open Go Go.Ab Go.Proofs

end Go.Caps
