/- Tools for contracts: making them, lists of them, and laws of loops. -/
import Derived.Test.YtffapeomfjfedaaAb31
import Derived.KernelRfl
set_option linter.unusedVariables false
namespace Go.Ab

/-- A contract out of typed functions. -/
def mkC (f : FuncId) (ats : List AT) (rs : List Ty) (pre : Cur (tsA ats) (List Prop)) (F : Cur (tsA ats) (Dens rs)) : Con := ⟨f, ats, rs, appC (tsA ats) pre, appC (tsA ats) F⟩

theorem okN {P : Program} : ∀ c ∈ ([] : List Con), c.Ok P := fun _ h => nomatch h
theorem okC {P : Program} {c : Con} {cs : List Con} (h : c.Ok P) (hs : ∀ x ∈ cs, x.Ok P) : ∀ x ∈ c :: cs, x.Ok P := fun x hx => by
  rcases List.mem_cons.1 hx with rfl | hx
  · exact h
  · exact hs x hx

section
variable {S X σ A : Type}

theorem whileO_go {step : S → Option (Lp S X)} {s s' : S} (h : step s = some (.go s')) : whileO step s = whileO step s' := by rw [whileO_eq, h]
theorem whileO_out {step : S → Option (Lp S X)} {s : S} {x : X} (h : step s = some (.out x)) : whileO step s = some x := by rw [whileO_eq, h]

/-- A loop with an invariant and a measure; G: what is left to be computed. -/
theorem whileO_rec {step : S → Option (Lp S X)} (I : S → Prop) (mu : S → Nat) (G : S → X)
    (h : ∀ s, I s → step s = some (.out (G s)) ∨ ∃ s', step s = some (.go s') ∧ I s' ∧ mu s' < mu s ∧ G s' = G s) : ∀ s, I s → whileO step s = some (G s) := by
  have key : ∀ n s, mu s ≤ n → I s → whileO step s = some (G s) := by
    intro n
    induction n with
    | zero =>
      intro s hn hs
      rcases h s hs with h1 | ⟨s', h1, h2, h3, h4⟩
      · exact whileO_out h1
      · omega
    | succ n ih =>
      intro s hn hs
      rcases h s hs with h1 | ⟨s', h1, h2, h3, h4⟩
      · exact whileO_out h1
      · rw [whileO_go h1, ih s' (by omega) h2, h4]
  exact fun s hs => key (mu s) s (Nat.le_refl _) hs

/-- Through a list, with the places: go on with a state, or leave. -/
def foldI (body : Nat → A → σ → Lp σ X) (fin : σ → X) : Nat → List A → σ → X
  | _, [], s => fin s
  | i, a :: l, s => match body i a s with
    | .go s' => foldI body fin (i + 1) l s'
    | .out x => x

theorem foldI_eq {step : S → Option (Lp S X)} (I : Nat → σ → Prop) (l : List A) (st : Nat → σ → S) (body : Nat → A → σ → Lp σ X) (fin : σ → X)
    (hb : ∀ (i : Nat) (hi : i < l.length) (s : σ), I i s → (∃ s', body i l[i] s = .go s' ∧ step (st i s) = some (.go (st (i + 1) s')) ∧ I (i + 1) s') ∨ (∃ x, body i l[i] s = .out x ∧ step (st i s) = some (.out x)))
    (hf : ∀ s, I l.length s → step (st l.length s) = some (.out (fin s))) : ∀ (i : Nat) (s : σ), i ≤ l.length → I i s → whileO step (st i s) = some (foldI body fin i (l.drop i) s) := by
  have key : ∀ n i s, l.length - i = n → i ≤ l.length → I i s → whileO step (st i s) = some (foldI body fin i (l.drop i) s) := by
    intro n
    induction n with
    | zero =>
      intro i s hn hi hs
      have : i = l.length := by omega
      subst this
      rw [List.drop_length]
      exact whileO_out (hf s hs)
    | succ n ih =>
      intro i s hn hi hs
      have hlt : i < l.length := by omega
      rw [List.drop_eq_getElem_cons hlt, foldI]
      rcases hb i hlt s hs with ⟨s', h1, h2, h3⟩ | ⟨x, h1, h2⟩
      · rw [whileO_go h2, h1]
        exact ih (i + 1) s' (by omega) (by omega) h3
      · rw [h1]; exact whileO_out h2
  exact fun i s hi hs => key _ i s rfl hi hs

theorem foldI_eq0 {step : S → Option (Lp S X)} (I : Nat → σ → Prop) (l : List A) (st : Nat → σ → S) (body : Nat → A → σ → Lp σ X) (fin : σ → X)
    (hb : ∀ (i : Nat) (hi : i < l.length) (s : σ), I i s → (∃ s', body i l[i] s = .go s' ∧ step (st i s) = some (.go (st (i + 1) s')) ∧ I (i + 1) s') ∨ (∃ x, body i l[i] s = .out x ∧ step (st i s) = some (.out x)))
    (hf : ∀ s, I l.length s → step (st l.length s) = some (.out (fin s))) (s : σ) (hs : I 0 s) : whileO step (st 0 s) = some (foldI body fin 0 l s) := by
  have := foldI_eq I l st body fin hb hf 0 s (Nat.zero_le _) hs
  rwa [List.drop_zero] at this
end

theorem gd_true {X : Type} {x : Option X} : gd True x = x := if_pos trivial

/-- The loops' numbers, in the order of the text. -/
def lm30 : List (List Nat) := [[0], [1], [2], [3], [4], [5], [6], [7], [8], [9], [10], [11], [12], [13], [14], [15], [16], [17], [18], [19], [20], [21], [22], [23], [24], [25], [26], [27], [28], [29]]

/-! ### Arithmetic -/
theorem wr_id {n : Int} (h : -9223372036854775808 ≤ n ∧ n ≤ 9223372036854775807) : wr .i64 n = n := by show IntKind.i64.wrap n = n; rw [IntKind.wrap_i64]; omega

theorem mul_bd {a b c : Int} (h1 : 0 ≤ a ∧ a ≤ c) (h2 : 0 ≤ b ∧ b ≤ c) : 0 ≤ a * b ∧ a * b ≤ c * c :=
  ⟨Int.mul_nonneg h1.1 h2.1, Int.mul_le_mul h1.2 h2.2 h2.1 (by omega)⟩

theorem ilt_iff {x y : Int} : ilt x y = true ↔ x < y := by simp [ilt]
theorem ilt_false {x y : Int} : ilt x y = false ↔ y ≤ x := by simp [ilt]
theorem ile_iff {x y : Int} : ile x y = true ↔ x ≤ y := by simp [ile]
theorem ile_false {x y : Int} : ile x y = false ↔ y < x := by simp [ile]
theorem ieq_iff {x y : Int} : ieq x y = true ↔ x = y := by simp [ieq]
theorem ieq_false {x y : Int} : ieq x y = false ↔ x ≠ y := by simp [ieq]
theorem beqB_iff {x y : Bool} : beqB x y = true ↔ x = y := by simp [beqB]

theorem deq_iff : ∀ {t : Ty} (_ : eqable t = true) {x y : Den t}, deq t x y = true ↔ x = y
  | .int k, _, x, y => ieq_iff
  | .bool, _, x, y => beqB_iff
  | .unit, _, x, y => ⟨fun _ => rfl, fun _ => rfl⟩
  | .prod a b, h, x, y => by
    simp only [eqable, Bool.and_eq_true] at h
    simp only [deq, Bool.and_eq_true, deq_iff h.1, deq_iff h.2]
    exact ⟨fun h => Prod.ext h.1 h.2, fun h => by subst h; exact ⟨rfl, rfl⟩⟩

theorem getD_at {α : Type} {l : List α} {i : Nat} {d : α} (h : i < l.length) : l.getD i d = l[i] := by
  rw [List.getD_eq_getElem?_getD, List.getElem?_eq_getElem h]; rfl

theorem cond_t {α : Type} {b : Bool} {x y : α} (h : b = true) : cond b x y = x := by rw [h]; rfl
theorem cond_f {α : Type} {b : Bool} {x y : α} (h : b = false) : cond b x y = y := by rw [h]; rfl

end Go.Ab
