/- Determinants of integer matrices: part 1. -/
import Derived.Test.YtibpopddoggnkaaXT
set_option linter.unusedVariables false
set_option linter.unusedSimpArgs false
namespace Go.Signs
def sk (i r:Nat) : Nat := if r < i then r else r + 1
def alt (i:Nat) : Int := if i % 2 = 0 then 1 else -1
def dt : Nat → (Nat → Nat → Int) → Int
  | 0, _ => 1
  | n + 1, A => sumN (fun i => alt i * A i 0 * dt n (fun r c => A (sk i r) (c + 1))) (n + 1)
theorem sk_lt {i r n : Nat} (h : r < n) : sk i r < n + 1 := by unfold sk; split <;> omega
theorem sk_succ {i r : Nat} : sk (i + 1) (r + 1) = sk i r + 1 := by unfold sk; split <;> split <;> omega
theorem sk_zero {r : Nat} : sk 0 r = r + 1 := by unfold sk; split <;> omega
theorem sk_fst {i : Nat} : sk (i + 1) 0 = 0 := by unfold sk; split <;> omega
theorem sk_ne {i r : Nat} : sk i r ≠ i := by unfold sk; split <;> omega
theorem alt_succ {i : Nat} : alt (i + 1) = - alt i := by unfold alt; split <;> split <;> omega
theorem alt_sq {i : Nat} : alt i * alt i = 1 := by unfold alt; split <;> rfl
theorem sumN_front {f : Nat → Int} : ∀ {n : Nat}, sumN f (n + 1) = f 0 + sumN (fun i => f (i + 1)) n
  | 0 => by simp [sumN]
  | n + 1 => by rw [sumN, sumN_front, sumN]; omega
theorem dt_congr : ∀ {n : Nat} {A B : Nat → Nat → Int}, (∀ i j, i < n → j < n → A i j = B i j) → dt n A = dt n B
  | 0, _, _, _ => rfl
  | n + 1, A, B, h => by
    rw [dt, dt]
    refine sumN_congr fun i hi => ?_
    rw [h i 0 hi (by omega), dt_congr (n := n) fun r c hr hc => h _ _ (sk_lt hr) (by omega)]
theorem dt_row : ∀ {n : Nat} {A : Nat → Nat → Int}, dt (n + 1) A = sumN (fun j => alt j * A 0 j * dt n (fun r c => A (r + 1) (sk j c))) (n + 1)
  | 0, A => by simp [dt, sumN]
  | n + 1, A => by
    have e1 : sumN (fun i => alt (i + 1) * A (i + 1) 0 * dt (n + 1) fun r c => A (sk (i + 1) r) (c + 1)) (n + 1) =
        sumN (fun i => sumN (fun j => alt (i + 1) * A (i + 1) 0 * (alt j * A 0 (j + 1) * dt n fun r c => A (sk i r + 1) (sk j c + 1))) (n + 1)) (n + 1) := by
      refine sumN_congr fun i _ => ?_
      rw [dt_row, sumN_mul]
      congr 1
      refine sumN_congr fun j _ => ?_
      simp only [sk_fst, sk_succ]
    have e2 : sumN (fun j => alt (j + 1) * A 0 (j + 1) * dt (n + 1) fun r c => A (r + 1) (sk (j + 1) c)) (n + 1) =
        sumN (fun j => sumN (fun i => alt (j + 1) * A 0 (j + 1) * (alt i * A (i + 1) 0 * dt n fun r c => A (sk i r + 1) (sk j c + 1))) (n + 1)) (n + 1) := by
      refine sumN_congr fun j _ => ?_
      rw [dt, sumN_mul]
      congr 1
      refine sumN_congr fun i _ => ?_
      simp only [sk_fst, sk_succ]
    rw [dt]
    refine sumN_front.trans (Eq.trans ?_ sumN_front.symm)
    rw [e1, e2, sumN_swap]
    simp only [sk_zero]
    congr 1
    refine sumN_congr fun j _ => sumN_congr fun i _ => ?_
    rw [alt_succ, alt_succ]
    grind
theorem dt_over : ∀ {n : Nat} {A : Nat → Nat → Int}, dt n (fun i j => A j i) = dt n A
  | 0, _ => rfl
  | n + 1, A => by
    rw [dt_row, dt]
    refine sumN_congr fun i _ => ?_
    rw [← dt_over (n := n) (A := fun r c => A (sk i r) (c + 1))]
def upd (A : Nat → Nat → Int) (r:Nat) (u : Nat → Int) : Nat → Nat → Int := fun i j => if i = r then u j else A i j
theorem upd_self {A : Nat → Nat → Int} {r : Nat} : upd A r (A r) = A := by
  funext i j; unfold upd; split
  · rename_i h; rw [h]
  · rfl
theorem upd_at {A : Nat → Nat → Int} {r : Nat} {u : Nat → Int} : upd A r u r = u := by funext j; simp [upd]
theorem upd_ne {A : Nat → Nat → Int} {r i : Nat} {u : Nat → Int} (h : i ≠ r) : upd A r u i = A i := by funext j; simp [upd, h]
theorem upd_comm {A : Nat → Nat → Int} {r s : Nat} {u v : Nat → Int} (h : r ≠ s) : upd (upd A r u) s v = upd (upd A s v) r u := by
  funext i j; unfold upd; split <;> split <;> first | rfl | omega
def skI (i r:Nat) : Nat := if r < i then r else r - 1
theorem upd_sk {A : Nat → Nat → Int} {r i : Nat} {u : Nat → Int} (h : i ≠ r) : (fun x c => upd A r u (sk i x) (c + 1)) = upd (fun x c => A (sk i x) (c + 1)) (skI i r) (fun c => u (c + 1)) := by
  funext x c
  unfold upd sk skI
  by_cases h1 : x < i
  · by_cases h2 : r < i
    · simp only [h1, h2, if_true]
    · simp only [h1, h2, if_true, if_false]
      rw [if_neg (by omega), if_neg (by omega)]
  · by_cases h2 : r < i
    · simp only [h1, h2, if_true, if_false]
      rw [if_neg (by omega), if_neg (by omega)]
    · simp only [h1, h2, if_false]
      by_cases h3 : x + 1 = r
      · rw [if_pos h3, if_pos (by omega)]
      · rw [if_neg h3, if_neg (by omega)]
theorem upd_sk_same {A : Nat → Nat → Int} {r : Nat} {u : Nat → Int} : (fun x c => upd A r u (sk r x) (c + 1)) = fun x c => A (sk r x) (c + 1) := by
  funext x c
  rw [upd_ne sk_ne]
theorem dt_lin : ∀ {n : Nat} {A : Nat → Nat → Int} {r : Nat} {a : Int} {u v : Nat → Int}, r < n → dt n (upd A r fun j => a * u j + v j) = a * dt n (upd A r u) + dt n (upd A r v)
  | 0, _, _, _, _, _, h => by omega
  | n + 1, A, r, a, u, v, h => by
    rw [dt, dt, dt, ← sumN_mul, ← sumN_add]
    refine sumN_congr fun i hi => ?_
    by_cases hir : i = r
    · subst hir
      rw [upd_sk_same, upd_sk_same, upd_sk_same, upd_at, upd_at, upd_at]
      grind
    · rw [upd_sk hir, upd_sk hir, upd_sk hir, upd_ne hir, upd_ne hir, upd_ne hir, dt_lin (by unfold skI; split <;> omega)]
      grind
theorem dt_add {n : Nat} {A : Nat → Nat → Int} {r : Nat} {u v : Nat → Int} (h : r < n) : dt n (upd A r fun j => u j + v j) = dt n (upd A r u) + dt n (upd A r v) := by
  have := dt_lin (A := A) (a := 1) (u := u) (v := v) h
  simpa using this
theorem dt_0 {n : Nat} {A : Nat → Nat → Int} {r : Nat} (h : r < n) : dt n (upd A r fun _ => 0) = 0 := by
  have := dt_add (A := A) (u := fun _ => 0) (v := fun _ => 0) h
  simp only [Int.add_zero] at this
  omega
theorem dt_scale {n : Nat} {A : Nat → Nat → Int} {r : Nat} {a : Int} {u : Nat → Int} (h : r < n) : dt n (upd A r fun j => a * u j) = a * dt n (upd A r u) := by
  have := dt_lin (A := A) (a := a) (u := u) (v := fun _ => 0) h
  rw [dt_0 h] at this
  simpa using this
theorem dt_sum {n : Nat} {A : Nat → Nat → Int} {r : Nat} {c : Nat → Int} {u : Nat → Nat → Int} (h : r < n) : ∀ {m : Nat}, dt n (upd A r fun j => sumN (fun k => c k * u k j) m) = sumN (fun k => c k * dt n (upd A r (u k))) m
  | 0 => dt_0 h
  | m + 1 => by
    rw [sumN, ← dt_sum h, Int.add_comm, ← dt_lin h]
    congr 2
    funext j
    rw [sumN, Int.add_comm]
theorem sumN_pair {f : Nat → Int} {r : Nat} : ∀ {n : Nat}, r + 1 < n → (∀ i, i < n → i ≠ r → i ≠ r + 1 → f i = 0) → sumN f n = f r + f (r + 1)
  | 0, h, _ => by omega
  | n + 1, h, hf => by
    rw [sumN]
    by_cases e : n = r + 1
    · subst e
      rw [sumN]
      have : sumN f r = 0 := by
        rw [sumN_congr (g := fun _ => 0) fun i hi => hf i (by omega) (by omega) (by omega), sumN_zero]
      omega
    · rw [sumN_pair (by omega) fun i hi => hf i (by omega), hf n (by omega) (by omega) e]; omega
theorem dt_adj : ∀ {n : Nat} {A : Nat → Nat → Int} {r : Nat}, r + 1 < n → A r = A (r + 1) → dt n A = 0
  | 0, _, _, h, _ => by omega
  | n + 1, A, r, h, he => by
    rw [dt, sumN_pair h]
    · have e : (fun x c => A (sk r x) (c + 1)) = fun x c => A (sk (r + 1) x) (c + 1) := by
        funext x c
        by_cases hx : x = r
        · subst hx; unfold sk; rw [if_neg (by omega), if_pos (by omega), he]
        · unfold sk
          by_cases h1 : x < r
          · rw [if_pos h1, if_pos (by omega)]
          · rw [if_neg h1, if_neg (by omega)]
      rw [e, alt_succ, he]
      grind
    · intro i hi h1 h2
      rw [dt_adj (r := if r < i then r else r - 1) (by split <;> omega) ?_, Int.mul_zero]
      funext c
      unfold sk
      by_cases h3 : r < i
      · simp only [h3, if_true]
        rw [if_pos (by omega), he]
      · simp only [h3, if_false]
        rw [if_neg (by omega), if_neg (by omega), show r - 1 + 1 = r by omega, he]
theorem upd2_eq {A : Nat → Nat → Int} {r s : Nat} {u v : Nat → Int} (h : r ≠ s) : upd (upd A r u) s v r = u := by rw [upd_ne h, upd_at]
theorem dt_exch_of {n : Nat} {A : Nat → Nat → Int} {r s : Nat} (hr : r < n) (hs : s < n) (hrs : r ≠ s) (h : ∀ u, dt n (upd (upd A r u) s u) = 0) (u v : Nat → Int) : dt n (upd (upd A r u) s v) = - dt n (upd (upd A r v) s u) := by
  have h1 := h (fun j => u j + v j)
  rw [dt_add hs, upd_comm hrs, dt_add hr, upd_comm hrs, dt_add hr, ← upd_comm hrs, ← upd_comm hrs, ← upd_comm hrs, ← upd_comm hrs, h u, h v] at h1
  omega
theorem upd_back {A : Nat → Nat → Int} {r s : Nat} : upd (upd A r (A r)) s (A s) = A := by rw [upd_self, upd_self]
theorem dt_same : ∀ (d:Nat) {n : Nat} {A : Nat → Nat → Int} {r : Nat}, r + d + 1 < n → A r = A (r + d + 1) → dt n A = 0
  | 0, _, _, _, h, he => dt_adj h he
  | d + 1, n, A, r, h, he => by
    have hx := dt_exch_of (n := n) (A := A) (r := r + d + 1) (s := r + d + 2) (by omega) (by omega) (by omega) (fun u => dt_adj (r := r + d + 1) (by omega) (by rw [upd2_eq (by omega), upd_at])) (A (r + d + 1)) (A (r + d + 2))
    rw [upd_back] at hx
    rw [hx, dt_same d (r := r) (by omega) (by rw [upd_ne (by omega), upd_ne (by omega), upd2_eq (by omega)]; exact he)]
    rfl
theorem dt_eqrow {n : Nat} {A : Nat → Nat → Int} {r s : Nat} (hr : r < n) (hs : s < n) (h : r ≠ s) (he : A r = A s) : dt n A = 0 := by
  rcases Nat.lt_or_gt_of_ne h with h | h
  · exact dt_same (s - r - 1) (r := r) (by omega) (by rw [he]; congr 1; omega)
  · exact dt_same (r - s - 1) (r := s) (by omega) (by rw [← he]; congr 1; omega)
theorem dt_exch {n : Nat} {A : Nat → Nat → Int} {r s : Nat} (hr : r < n) (hs : s < n) (h : r ≠ s) (u v : Nat → Int) : dt n (upd (upd A r u) s v) = - dt n (upd (upd A r v) s u) :=
  dt_exch_of hr hs h (fun u => dt_eqrow hr hs h (by rw [upd2_eq h, upd_at])) u v
theorem dt_swap {n : Nat} {A : Nat → Nat → Int} {r s : Nat} (hr : r < n) (hs : s < n) (h : r ≠ s) : dt n (upd (upd A r (A s)) s (A r)) = - dt n A := by
  rw [dt_exch hr hs h, upd_back]
theorem dt_op {n : Nat} {A : Nat → Nat → Int} {r s : Nat} {c : Int} (hr : r < n) (hs : s < n) (h : r ≠ s) : dt n (upd A r fun j => A r j + c * A s j) = dt n A := by
  have e : (fun j => A r j + c * A s j) = fun j => c * A s j + A r j := by funext j; omega
  rw [e, dt_lin hr, dt_eqrow (A := upd A r (A s)) hr hs h (by rw [upd_at, upd_ne (Ne.symm h)]), upd_self]
  omega
theorem dt_ops {n : Nat} {A B : Nat → Nat → Int} {s : Nat} (hs : s < n) (c : Nat → Int) (h1 : B s = A s) (h2 : ∀ i, i < n → i ≠ s → B i = fun j => A i j + c i * A s j) : dt n B = dt n A := by
  have key : ∀ t, t ≤ n → dt n (fun i => if i < t then B i else A i) = dt n A := by
    intro t
    induction t with
    | zero => intro _; congr 1
    | succ t ih =>
      intro ht
      rw [← ih (by omega)]
      by_cases hts : t = s
      · congr 1
        funext i
        by_cases h3 : i = t
        · subst h3; subst hts; rw [if_pos (by omega), if_neg (by omega), h1]
        · by_cases h4 : i < t
          · rw [if_pos (by omega), if_pos h4]
          · rw [if_neg (by omega), if_neg h4]
      · rw [← dt_op (A := fun i => if i < t then B i else A i) (r := t) (s := s) (c := c t) (by omega) hs hts]
        congr 1
        funext i
        unfold upd
        by_cases h3 : i = t
        · subst h3
          funext j
          rw [if_pos (by omega), if_pos rfl, if_neg (by omega), h2 i (by omega) hts]
          by_cases h4 : s < i
          · rw [if_pos h4, h1]
          · rw [if_neg h4]
        · funext j
          rw [if_neg h3]
          by_cases h4 : i < t
          · simp only [h4, if_true, show i < t + 1 by omega]
          · simp only [h4, if_false, show ¬ i < t + 1 by omega]
  rw [← key n (Nat.le_refl _)]
  exact dt_congr fun i j hi _ => by rw [if_pos hi]
def stk (m:Nat) (x Y : Nat → Nat → Int) : Nat → Nat → Int := fun i => if i < m then x i else Y (i - m)
def mulM (n:Nat) (C Y : Nat → Nat → Int) : Nat → Nat → Int := fun i j => sumN (fun k => C i k * Y k j) n
def stk1 (m:Nat) (x Y : Nat → Nat → Int) (k:Nat) : Nat → Nat → Int := fun i => if i < m then x i else if i = m then Y k else Y (sk k (i - m - 1))
theorem dt_move {n m : Nat} {x Y : Nat → Nat → Int} : ∀ {k : Nat}, m + k < n → dt n (stk1 m x Y k) = alt k * dt n (stk m x Y)
  | 0, _ => by
    have : stk1 m x Y 0 = stk m x Y := by
      funext i
      unfold stk1 stk
      by_cases h : i < m
      · rw [if_pos h, if_pos h]
      · rw [if_neg h, if_neg h]
        by_cases h2 : i = m
        · rw [if_pos h2, h2, Nat.sub_self]
        · rw [if_neg h2, sk_zero, show i - m - 1 + 1 = i - m by omega]
    rw [this]; simp [alt]
  | k + 1, h => by
    rw [alt_succ, Int.neg_mul, ← dt_move (k := k) (by omega), ← dt_swap (A := stk1 m x Y k) (r := m) (s := m + k + 1) (by omega) (by omega) (by omega)]
    congr 1
    funext i
    unfold upd stk1 sk
    by_cases h1 : i < m
    · simp [h1, show i ≠ m + k + 1 by omega, show i ≠ m by omega]
    · by_cases h2 : i = m
      · subst h2
        simp [show i ≠ i + k + 1 by omega, show ¬ (i + k + 1 < i) by omega, show i + k + 1 ≠ i by omega, show i + k + 1 - i - 1 = k by omega]
      · by_cases h3 : i = m + k + 1
        · subst h3
          simp [show ¬ (m + k + 1 < m) by omega, show m + k + 1 ≠ m by omega, show m + k + 1 - m - 1 = k by omega]
        · by_cases h4 : i - m - 1 < k
          · simp [h1, h2, h3, h4, show i - m - 1 < k + 1 by omega]
          · simp [h1, h2, h3, h4, show ¬ (i - m - 1 < k + 1) by omega]
theorem sumN_out {f : Nat → Int} {k : Nat} : ∀ {n : Nat}, k < n + 1 → sumN f (n + 1) = f k + sumN (fun l => f (sk k l)) n
  | 0, h => by rw [show k = 0 by omega]; simp [sumN]
  | n + 1, h => by
    by_cases e : k = n + 1
    · subst e
      rw [sumN, Int.add_comm]
      congr 1
      refine sumN_congr fun i hi => ?_
      unfold sk; rw [if_pos hi]
    · rw [sumN, sumN_out (k := k) (by omega), sumN]
      have : sk k n = n + 1 := by unfold sk; rw [if_neg (by omega)]
      rw [this]; omega
theorem dt_stk : ∀ {n m : Nat} {C x Y : Nat → Nat → Int}, dt (m + n) (stk m x (mulM n C Y)) = dt n C * dt (m + n) (stk m x Y)
  | 0, m, C, x, Y => by
    rw [dt, Int.one_mul]
    exact dt_congr fun i j hi _ => by unfold stk; rw [if_pos (by omega), if_pos (by omega)]
  | n + 1, m, C, x, Y => by
    have e1 : stk m x (mulM (n + 1) C Y) = upd (stk m x (mulM (n + 1) C Y)) m (fun j => sumN (fun k => C 0 k * Y k j) (n + 1)) := by
      funext i j
      unfold upd
      by_cases h : i = m
      · subst h; rw [if_pos rfl]; unfold stk mulM; rw [if_neg (by omega), Nat.sub_self]
      · rw [if_neg h]
    rw [e1, dt_sum (by omega), dt_row, Int.mul_comm, ← sumN_mul]
    refine sumN_congr fun k hk => ?_
    have e2 : dt (m + (n + 1)) (upd (stk m x (mulM (n + 1) C Y)) m (Y k)) = dt (m + 1 + n) (stk (m + 1) (fun i => if i < m then x i else Y k) (mulM n (fun r c => C (r + 1) (sk k c)) (fun l => Y (sk k l)))) := by
      rw [show m + (n + 1) = m + 1 + n by omega]
      refine (dt_ops (s := m) (by omega) (fun i => if i < m then 0 else - C (i - m) k) ?_ ?_).symm
      · funext j
        rw [upd_at]; unfold stk
        simp
      · intro i hi him
        funext j
        rw [upd_at, upd_ne him]
        unfold stk mulM
        by_cases h1 : i < m
        · simp [h1, show i < m + 1 by omega]
        · simp only [h1, show ¬ (i < m + 1) by omega, if_false]
          rw [sumN_out (k := k) (by omega), show i - (m + 1) + 1 = i - m by omega]
          grind
    rw [e2, dt_stk]
    have e3 : stk (m + 1) (fun i => if i < m then x i else Y k) (fun l => Y (sk k l)) = stk1 m x Y k := by
      funext i
      unfold stk stk1
      by_cases h1 : i < m
      · simp [h1, show i < m + 1 by omega]
      · by_cases h2 : i = m
        · subst h2; simp
        · simp [h1, h2, show ¬ (i < m + 1) by omega, show i - (m + 1) = i - m - 1 by omega]
    rw [e3, show m + 1 + n = m + (n + 1) by omega, dt_move (by omega)]
    grind
theorem dt_mul {n : Nat} {C Y : Nat → Nat → Int} : dt n (mulM n C Y) = dt n C * dt n Y := by
  have := dt_stk (n := n) (m := 0) (C := C) (x := Y) (Y := Y)
  rw [Nat.zero_add] at this
  have e : ∀ Z : Nat → Nat → Int, stk 0 Y Z = Z := fun Z => by funext i; unfold stk; rw [if_neg (by omega), Nat.sub_zero]
  rwa [e, e] at this
theorem dt_gram {n : Nat} {A : Nat → Nat → Int} : dt n A * dt n A = dt n (fun i k => sumN (fun j => A i j * A k j) n) := by
  have h := dt_mul (n := n) (C := A) (Y := fun i j => A j i)
  rw [show dt n (fun i j => A j i) = dt n A from dt_over] at h
  exact h.symm
end Go.Signs
set_option linter.unusedVariables false
set_option linter.unusedSimpArgs false
namespace Go.Signs
theorem sumN_neg {f : Nat → Int} {n : Nat} : sumN (fun i => - f i) n = - sumN f n := by
  have := sumN_mul (f := f) (c := -1) (n := n)
  simpa using this
theorem dt_eqcol {n : Nat} {A : Nat → Nat → Int} {r s : Nat} (hr : r < n) (hs : s < n) (h : r ≠ s) (he : ∀ i, A i r = A i s) : dt n A = 0 := by
  have e : dt n (fun i j => A j i) = dt n A := dt_over
  rw [← e]
  exact dt_eqrow hr hs h (by funext j; exact he j)
theorem cramer (k:Nat) (S : Nat → Nat → Int) (a : Nat → Int) : ∃ U : Nat → Int, ∀ j, j < k → dt k S * a j = sumN (fun t => U t * S t j) k := by
  refine ⟨fun t => alt t * dt k (fun r c => (if sk (t + 1) r = 0 then a else S (sk (t + 1) r - 1)) c), fun j hj => ?_⟩
  have h := dt_eqcol (n := k + 1) (A := fun r c => (if r = 0 then a else S (r - 1)) (if c = 0 then j else c - 1)) (r := 0) (s := j + 1) (by omega) (by omega) (by omega) (fun i => by simp)
  rw [dt, sumN_front] at h
  simp only [sk_zero, alt_succ] at h
  have e1 : alt 0 = 1 := rfl
  simp only [e1, Nat.add_one_ne_zero, if_false, Nat.add_sub_cancel, if_true, Int.one_mul, Int.neg_mul] at h
  rw [sumN_neg] at h
  have h2 : dt k S * a j = sumN (fun i => alt i * S i j * dt k fun r c => (if sk (i + 1) r = 0 then a else S (sk (i + 1) r - 1)) c) k := by
    have e3 : (dt k fun r c => S r c) = dt k S := rfl
    rw [e3, Int.mul_comm] at h
    omega
  rw [h2]
  refine sumN_congr fun t _ => ?_
  rw [Int.mul_assoc, Int.mul_assoc]
  congr 1
  exact Int.mul_comm _ _
theorem dt_less {n : Nat} {M : Nat → Nat → Int} {r : Nat} {p : Int} {k : Nat} {U : Nat → Int} {g : Nat → Nat} (hr : r < n) (hg : ∀ t, t < k → g t < n ∧ g t ≠ r) :
    dt n (upd M r fun c => p * M r c - sumN (fun t => U t * M (g t) c) k) = p * dt n M := by
  have e : (fun c => p * M r c - sumN (fun t => U t * M (g t) c) k) = fun c => p * M r c + sumN (fun t => (- U t) * M (g t) c) k := by
    funext c
    have : sumN (fun t => (- U t) * M (g t) c) k = - sumN (fun t => U t * M (g t) c) k := by
      rw [← sumN_neg]; exact sumN_congr fun t _ => Int.neg_mul _ _
    rw [this]; omega
  rw [e, dt_lin hr, upd_self, dt_sum hr]
  rw [sumN_congr (g := fun _ => 0) fun t ht => ?_, sumN_zero]
  · omega
  · obtain ⟨h1, h2⟩ := hg t ht
    rw [dt_eqrow (r := r) (s := g t) hr h1 (Ne.symm h2) (by rw [upd_at, upd_ne h2]), Int.mul_zero]
theorem dt_lone {n : Nat} {M : Nat → Nat → Int} (h : ∀ c, c < n → M 0 (c + 1) = 0) : dt (n + 1) M = M 0 0 * dt n (fun r c => M (r + 1) (c + 1)) := by
  rw [dt_row, sumN_front, sumN_congr (g := fun _ => 0) fun c hc => by rw [h c hc]; simp, sumN_zero]
  simp only [sk_zero]
  have e1 : alt 0 = 1 := rfl
  rw [e1, Int.one_mul]; omega
theorem upd_02 {A : Nat → Nat → Int} {u : Nat → Int} {t : Nat} : upd A 0 u (t + 2) = A (t + 2) := upd_ne (by omega)
theorem upd_12 {A : Nat → Nat → Int} {u : Nat → Int} {t : Nat} : upd A 1 u (t + 2) = A (t + 2) := upd_ne (by omega)
theorem dt_two {n : Nat} {M : Nat → Nat → Int} (h : ∀ c, c < n → M 0 (c + 2) = 0) : dt (n + 2) M = M 0 0 * dt (n + 1) (fun r c => M (r + 1) (c + 1)) - M 0 1 * dt (n + 1) (fun r c => M (r + 1) (sk 1 c)) := by
  rw [dt_row, sumN_front, sumN_front, sumN_congr (g := fun _ => 0) fun c hc => by rw [h c hc]; simp, sumN_zero]
  simp only [sk_zero]
  have e1 : alt 0 = 1 := rfl
  have e2 : alt (0 + 1) = -1 := rfl
  rw [e1, e2, Int.neg_mul]; simp only [Int.zero_add, Nat.zero_add, Int.neg_mul, Int.one_mul]; omega
def brd (S : Nat → Nat → Int) (a b : Nat → Int) (d:Int) : Nat → Nat → Int := fun r c => if r = 0 then (if c = 0 then d else a (c - 1)) else if c = 0 then b (r - 1) else S (r - 1) (c - 1)
theorem dt_brd {k : Nat} {S : Nat → Nat → Int} {a b : Nat → Int} {d : Int} {U : Nat → Int} (hp : dt k S ≠ 0) (hU : ∀ j, j < k → dt k S * a j = sumN (fun t => U t * S t j) k) :
    dt (k + 1) (brd S a b d) = dt k S * d - sumN (fun t => U t * b t) k := by
  have h1 := dt_less (n := k + 1) (M := brd S a b d) (r := 0) (p := dt k S) (k := k) (U := U) (g := fun t => t + 1) (by omega) (fun t ht => ⟨by omega, by omega⟩)
  rw [dt_lone] at h1
  · rw [upd_at] at h1
    have e2 : (dt k fun r c => upd (brd S a b d) 0 (fun c => dt k S * brd S a b d 0 c - sumN (fun t => U t * brd S a b d (t + 1) c) k) (r + 1) (c + 1)) = dt k S := by
      refine dt_congr fun r c _ _ => ?_
      rw [upd_ne (by omega)]; simp [brd]
    rw [e2] at h1
    simp only [brd, if_true, Nat.add_one_ne_zero, if_false, Nat.add_sub_cancel] at h1 ⊢
    rw [Int.mul_comm] at h1
    exact (Int.eq_of_mul_eq_mul_left hp h1).symm
  · intro c hc
    rw [upd_at]
    simp only [brd, if_true, Nat.add_one_ne_zero, if_false, Nat.add_sub_cancel]
    rw [hU c hc]; omega
def bd1 (M : Nat → Nat → Int) (i j:Nat) : Nat → Nat → Int := fun r c => M (if r = 0 then i else r + 1) (if c = 0 then j else c + 1)
theorem bd1_brd {M : Nat → Nat → Int} {i j : Nat} : bd1 M i j = brd (fun r c => M (r + 2) (c + 2)) (fun c => M i (c + 2)) (fun r => M (r + 2) j) (M i j) := by
  funext r c
  unfold bd1 brd
  by_cases h : r = 0 <;> by_cases h2 : c = 0 <;> simp [h, h2] <;> first | rfl | (congr 1 <;> omega)
theorem dt_sylv {k : Nat} {M : Nat → Nat → Int} (hp : dt k (fun r c => M (r + 2) (c + 2)) ≠ 0) :
    dt k (fun r c => M (r + 2) (c + 2)) * dt (k + 2) M = dt (k + 1) (bd1 M 0 0) * dt (k + 1) (bd1 M 1 1) - dt (k + 1) (bd1 M 0 1) * dt (k + 1) (bd1 M 1 0) := by
  obtain ⟨U, hU⟩ := cramer k (fun r c => M (r + 2) (c + 2)) (fun c => M 0 (c + 2))
  obtain ⟨V, hV⟩ := cramer k (fun r c => M (r + 2) (c + 2)) (fun c => M 1 (c + 2))
  rw [bd1_brd, bd1_brd, bd1_brd, bd1_brd, dt_brd hp hU, dt_brd hp hU, dt_brd hp hV, dt_brd hp hV]
  generalize hP : dt k (fun r c => M (r + 2) (c + 2)) = p at *
  have h1 := dt_less (n := k + 2) (M := M) (r := 0) (p := p) (k := k) (U := U) (g := fun t => t + 2) (by omega) (fun t ht => ⟨by omega, by omega⟩)
  have h2 := dt_less (n := k + 2) (M := upd M 0 fun c => p * M 0 c - sumN (fun t => U t * M (t + 2) c) k) (r := 1) (p := p) (k := k) (U := V) (g := fun t => t + 2) (by omega) (fun t ht => ⟨by omega, by omega⟩)
  rw [h1, dt_two] at h2
  · rw [dt_lone, dt_lone] at h2
    · simp only [Nat.zero_add, upd_at, upd_ne (show (0:Nat) ≠ 1 by omega), upd_ne (show (1:Nat) ≠ 0 by omega), Nat.reduceAdd, upd_02, upd_12] at h2
      have e1 : ∀ (r:Nat), sk 1 (r + 1) = r + 2 := fun r => by unfold sk; rw [if_neg (by omega)]
      have e0 : sk 1 0 = 0 := rfl
      have e2 : ∀ (r:Nat) {A : Nat → Nat → Int} {u : Nat → Int}, upd A 1 u (r + 1 + 1) = A (r + 2) := fun r => upd_ne (by omega)
      have e3 : ∀ (r:Nat) {A : Nat → Nat → Int} {u : Nat → Int}, upd A 0 u (r + 2) = A (r + 2) := fun r => upd_ne (by omega)
      simp only [e0, e1, e2, e3] at h2
      rw [hP] at h2
      have h3 : p * (p * dt (k + 2) M) = p * ((p * M 0 0 - sumN (fun t => U t * M (t + 2) 0) k) * (p * M 1 1 - sumN (fun t => V t * M (t + 2) 1) k) - (p * M 0 1 - sumN (fun t => U t * M (t + 2) 1) k) * (p * M 1 0 - sumN (fun t => V t * M (t + 2) 0) k)) := by
        rw [← h2]
        grind
      exact Int.eq_of_mul_eq_mul_left hp h3
    · intro c hc
      have e1 : sk 1 (c + 1) = c + 2 := by unfold sk; rw [if_neg (by omega)]
      simp only [Nat.zero_add, upd_at, e1, upd_ne (show (1:Nat) ≠ 0 by omega), upd_02, upd_12]
      rw [hV c hc]; omega
    · intro c hc
      simp only [Nat.zero_add, upd_at, upd_ne (show (1:Nat) ≠ 0 by omega), upd_02, upd_12]
      have := hV c hc
      change p * M 1 (c + 2) - sumN (fun t => V t * M (t + 2) (c + 2)) k = 0
      rw [this]; omega
  · intro c hc
    rw [upd_ne (by omega), upd_at, hU c hc]; omega
theorem sumN_nn {f : Nat → Int} : ∀ {n : Nat}, (∀ i, i < n → 0 ≤ f i) → 0 ≤ sumN f n
  | 0, _ => Int.le_refl _
  | n + 1, h => by
    have h1 := sumN_nn (n := n) fun i hi => h i (by omega)
    have h2 := h n (by omega)
    rw [sumN]; omega
theorem sumN_nn0 {f : Nat → Int} : ∀ {n : Nat}, (∀ i, i < n → 0 ≤ f i) → sumN f n ≤ 0 → ∀ i, i < n → f i = 0
  | 0, _, _, i, hi => by omega
  | n + 1, h, hs, i, hi => by
    have h1 := sumN_nn (n := n) fun i hi => h i (by omega)
    have h2 := h n (by omega)
    rw [sumN] at hs
    by_cases e : i = n
    · subst e; omega
    · exact sumN_nn0 (n := n) (fun i hi => h i (by omega)) (by omega) i (by omega)
theorem sq_nn (x:Int) : 0 ≤ x * x := by
  rcases Int.le_total 0 x with h | h
  · exact Int.mul_nonneg h h
  · exact Int.mul_nonneg_of_nonpos_of_nonpos h h
theorem sq_0 {x : Int} (h : x * x = 0) : x = 0 := by
  rcases Int.mul_eq_zero.1 h with h | h <;> exact h
def dotN (n:Nat) (u v : Nat → Int) : Int := sumN (fun j => u j * v j) n
theorem dot_comm {n : Nat} {u v : Nat → Int} : dotN n u v = dotN n v u := sumN_congr fun j _ => Int.mul_comm _ _
theorem dot_sum {n k : Nat} {U : Nat → Int} {A : Nat → Nat → Int} {w : Nat → Int} : dotN n (fun j => sumN (fun t => U t * A t j) k) w = sumN (fun t => U t * dotN n (A t) w) k := by
  unfold dotN
  rw [sumN_congr (g := fun j => sumN (fun t => U t * A t j * w j) k) fun j _ => by rw [Int.mul_comm, ← sumN_mul]; exact sumN_congr fun t _ => Int.mul_comm _ _, sumN_swap]
  refine sumN_congr fun t _ => ?_
  rw [← sumN_mul]
  exact sumN_congr fun j _ => Int.mul_assoc _ _ _
theorem dt_shift {k : Nat} {G : Nat → Nat → Int} : dt (k + 1) (brd G (G k) (fun r => G r k) (G k k)) = dt (k + 1) G := by
  have h1 := dt_move (n := k + 1) (m := 0) (x := G) (Y := fun i j => brd G (G k) (fun r => G r k) (G k k) (i + 1) j) (k := k) (by omega)
  have key : ∀ (B : Nat → Nat → Int), dt (k + 1) (fun r c => if r = 0 then B k c else B (r - 1) c) = alt k * dt (k + 1) B := by
    intro B
    rw [show dt (k + 1) B = dt (k + 1) (stk 0 B B) by congr 1, ← dt_move (by omega)]
    refine dt_congr fun r c hr _ => ?_
    unfold stk1 sk
    by_cases h : r = 0
    · simp [h]
    · simp [h, show r - 1 < k by omega]
  have e1 : brd G (G k) (fun r => G r k) (G k k) = fun r c => if r = 0 then (fun x y => if y = 0 then G x k else G x (y - 1)) k c else (fun x y => if y = 0 then G x k else G x (y - 1)) (r - 1) c := by
    funext r c
    unfold brd
    by_cases h : r = 0 <;> by_cases h2 : c = 0 <;> simp [h, h2]
  rw [e1]
  refine (key (fun x y => if y = 0 then G x k else G x (y - 1))).trans ?_
  have e2 : dt (k + 1) (fun x y => if y = 0 then G x k else G x (y - 1)) = alt k * dt (k + 1) G := by
    have := key (fun i j => G j i)
    rw [show dt (k + 1) (fun i j => G j i) = dt (k + 1) G from dt_over] at this
    rw [← this, ← dt_over (A := fun x y => if y = 0 then G x k else G x (y - 1))]
  rw [e2, ← Int.mul_assoc, alt_sq, Int.one_mul]
theorem hadamard {n : Nat} {A : Nat → Nat → Int} {N : Int} (hN : 1 ≤ N) (hA : ∀ i, i < n → dotN n (A i) (A i) = N) (h0 : dt n A ≠ 0) : ∀ k, k ≤ n →
    0 < dt k (fun i j => dotN n (A i) (A j)) ∧ dt k (fun i j => dotN n (A i) (A j)) ≤ N ^ k ∧ (dt k (fun i j => dotN n (A i) (A j)) = N ^ k → ∀ i j, i < k → j < i → dotN n (A i) (A j) = 0)
  | 0, _ => by simp [dt]
  | k + 1, hk => by
    obtain ⟨h1, h2, h3⟩ := hadamard hN hA h0 k (by omega)
    generalize hG : (fun i j => dotN n (A i) (A j)) = G at *
    have hGc : ∀ i j, G i j = dotN n (A i) (A j) := fun i j => by rw [← hG]
    have hp : dt k G ≠ 0 := by omega
    obtain ⟨U, hU⟩ := cramer k G (G k)
    have hb := dt_brd (b := fun r => G r k) (d := G k k) hp hU
    rw [dt_shift] at hb
    generalize hP : dt k G = p at *
    have hv : ∀ w, dotN n (fun j => sumN (fun t => U t * A t j) k) w = sumN (fun t => U t * dotN n (A t) w) k := fun w => dot_sum
    generalize hV : (fun j => sumN (fun t => U t * A t j) k) = v at *
    have hva : ∀ t, t < k → dotN n v (A t) = p * dotN n (A k) (A t) := fun t ht => by
      rw [hv, ← hGc k t, hU t ht]
      exact sumN_congr fun s _ => by rw [hGc]
    have hs : sumN (fun t => U t * G t k) k = dotN n v (A k) := by rw [hv]; exact sumN_congr fun t _ => by rw [hGc]
    have hvv : dotN n v v = p * dotN n v (A k) := by
      have e : dotN n v v = sumN (fun t => U t * dotN n (A t) v) k := hv v
      rw [e, hv, ← sumN_mul]
      refine sumN_congr fun t ht => ?_
      rw [dot_comm, hva t ht, dot_comm (u := A t)]
      grind
    have hd : dotN n (fun j => p * A k j - v j) (fun j => p * A k j - v j) = p * dt (k + 1) G := by
      have e : dotN n (fun j => p * A k j - v j) (fun j => p * A k j - v j) = p * p * dotN n (A k) (A k) - 2 * p * dotN n v (A k) + dotN n v v := by
        unfold dotN
        rw [← sumN_mul, ← sumN_mul]
        have e4 : ∀ f g h : Nat → Int, sumN f n - sumN g n + sumN h n = sumN (fun j => f j - g j + h j) n := by
          intro f g h
          rw [sumN_add]
          congr 1
          have : sumN f n = sumN (fun j => f j - g j) n + sumN g n := by
            rw [← sumN_add]; exact sumN_congr fun i _ => by omega
          omega
        rw [e4]
        exact sumN_congr fun j _ => by grind
      rw [e, hb, hs, hvv, hGc]
      grind
    have hvn : 0 ≤ dotN n v v := sumN_nn fun j _ => sq_nn _
    have hle : 0 ≤ dotN n v (A k) := by
      rcases Int.le_total 0 (dotN n v (A k)) with h | h
      · exact h
      · rcases Int.lt_or_eq_of_le h with h | h
        · have := Int.mul_neg_of_pos_of_neg h1 h; omega
        · omega
    have hkk : G k k = N := by rw [hGc]; exact hA k (by omega)
    rw [hs, hkk] at hb
    have hpos : 0 < dt (k + 1) G := by
      rcases Int.lt_or_le 0 (dt (k + 1) G) with h | h
      · exact h
      · exfalso
        have hz : dotN n (fun j => p * A k j - v j) (fun j => p * A k j - v j) ≤ 0 := by
          rw [hd]
          rcases Int.lt_or_eq_of_le h with h | h
          · have := Int.mul_neg_of_pos_of_neg h1 h; omega
          · rw [h]; omega
        have hz2 := sumN_nn0 (f := fun j => (p * A k j - v j) * (p * A k j - v j)) (fun j _ => sq_nn _) hz
        have hrow := dt_less (n := n) (M := A) (r := k) (p := p) (k := k) (U := U) (g := fun t => t) (by omega) (fun t ht => ⟨by omega, by omega⟩)
        rw [dt_congr (B := upd A k fun _ => 0) (fun i j hi hj => by
          unfold upd
          split
          · have := sq_0 (hz2 j hj)
            rw [← hV] at this
            exact this
          · rfl), dt_0 (by omega)] at hrow
        rcases Int.mul_eq_zero.1 hrow.symm with h | h
        · exact hp h
        · exact h0 h
    have hpN : p * N ≤ N ^ k * N := Int.mul_le_mul_of_nonneg_right h2 (by omega)
    refine ⟨hpos, by rw [Int.pow_succ]; omega, fun he i j hi hj => ?_⟩
    rw [Int.pow_succ] at he
    have h5 : dotN n v (A k) = 0 := by omega
    have h6 : p = N ^ k := by
      have : p * N = N ^ k * N := by omega
      exact Int.eq_of_mul_eq_mul_right (by omega) this
    by_cases e : i = k
    · subst e
      rw [h5, Int.mul_zero] at hvv
      have hv0 := sumN_nn0 (f := fun j => v j * v j) (n := n) (fun j _ => sq_nn _) (by unfold dotN at hvv; omega)
      have h7 := hva j hj
      have h8 : dotN n v (A j) = 0 := by
        unfold dotN
        rw [sumN_congr (g := fun _ => 0) fun x hx => by rw [sq_0 (hv0 x hx), Int.zero_mul], sumN_zero]
      rw [h8] at h7
      rcases Int.mul_eq_zero.1 h7.symm with h | h
      · exact absurd h hp
      · exact h
    · exact h3 h6 i j (by omega) hj
theorem dt_diag {N : Int} : ∀ {n : Nat} {G : Nat → Nat → Int}, (∀ i j, i < n → j < n → G i j = if i = j then N else 0) → dt n G = N ^ n
  | 0, _, _ => by simp [dt]
  | n + 1, G, h => by
    rw [dt_lone fun c hc => by rw [h _ _ (by omega) (by omega), if_neg (by omega)], h 0 0 (by omega) (by omega), if_pos rfl, dt_diag (N := N) fun i j hi hj => by rw [h _ _ (by omega) (by omega)]; simp, Int.pow_succ, Int.mul_comm]
theorem had_le {n : Nat} {A : Nat → Nat → Int} {N : Int} (hN : 1 ≤ N) (hA : ∀ i, i < n → dotN n (A i) (A i) = N) : dt n A * dt n A ≤ N ^ n := by
  by_cases h0 : dt n A = 0
  · rw [h0, Int.zero_mul]; exact Int.pow_nonneg (by omega)
  · have := (hadamard hN hA h0 n (Nat.le_refl _)).2.1
    rw [dt_gram]; exact this
theorem had_eq {n : Nat} {A : Nat → Nat → Int} {N : Int} (hN : 1 ≤ N) (hA : ∀ i, i < n → dotN n (A i) (A i) = N) : dt n A * dt n A = N ^ n ↔ ∀ i j, i < n → j < n → i ≠ j → dotN n (A i) (A j) = 0 := by
  constructor
  · intro he
    have h0 : dt n A ≠ 0 := by
      intro h
      rw [h, Int.zero_mul] at he
      have := Int.pow_pos (n := N) (m := n) (by omega)
      omega
    have := (hadamard hN hA h0 n (Nat.le_refl _)).2.2 (by rw [← he, dt_gram]; rfl)
    intro i j hi hj hij
    rcases Nat.lt_or_gt_of_ne hij with h | h
    · rw [dot_comm]; exact this j i hj h
    · exact this i j hi h
  · intro h
    rw [dt_gram]
    refine dt_diag fun i j hi hj => ?_
    by_cases e : i = j
    · subst e; rw [if_pos rfl]; exact hA i hi
    · rw [if_neg e]; exact h i j hi hj e
end Go.Signs
set_option linter.unusedVariables false
set_option linter.unusedSimpArgs false
namespace Go.Signs
def mnr (A : Nat → Nat → Int) (k i j:Nat) : Int := dt (k + 1) (brd A (A i) (fun r => A r j) (A i j))
theorem row_second {k i : Nat} {B : Nat → Nat → Int} : dt (k + 2) (fun r c => B (if r = 0 then i else if r = 1 then k else r - 2) c) = alt k * dt (k + 2) (fun r c => B (if r = 0 then i else r - 1) c) := by
  have h := dt_move (n := k + 2) (m := 1) (x := fun _ => B i) (Y := B) (k := k) (by omega)
  rw [dt_congr (B := stk1 1 (fun _ => B i) B k) fun r c hr _ => ?_, h, dt_congr (B := fun r c => B (if r = 0 then i else r - 1) c) fun r c hr _ => ?_]
  · unfold stk
    by_cases h0 : r = 0
    · simp [h0]
    · simp [h0]
  · unfold stk1 sk
    by_cases h0 : r = 0
    · simp [h0]
    · by_cases h1 : r = 1
      · simp [h1]
      · simp [h0, h1, show r - 1 - 1 < k by omega, show r - 2 = r - 1 - 1 by omega]
theorem mnr_two {A : Nat → Nat → Int} {k i j : Nat} : dt (k + 2) (fun r c => A (if r = 0 then i else if r = 1 then k else r - 2) (if c = 0 then j else if c = 1 then k else c - 2)) = mnr A (k + 1) i j := by
  have h1 := row_second (k := k) (i := i) (B := fun r c => A r (if c = 0 then j else if c = 1 then k else c - 2))
  have h2 := row_second (k := k) (i := j) (B := fun c r => A (if r = 0 then i else r - 1) c)
  rw [show (dt (k + 2) fun r c => A (if c = 0 then i else c - 1) (if r = 0 then j else if r = 1 then k else r - 2)) = dt (k + 2) fun r c => A (if r = 0 then i else r - 1) (if c = 0 then j else if c = 1 then k else c - 2) from dt_over (A := fun r c => A (if r = 0 then i else r - 1) (if c = 0 then j else if c = 1 then k else c - 2)),
    show (dt (k + 2) fun r c => A (if c = 0 then i else c - 1) (if r = 0 then j else r - 1)) = dt (k + 2) fun r c => A (if r = 0 then i else r - 1) (if c = 0 then j else c - 1) from dt_over (A := fun r c => A (if r = 0 then i else r - 1) (if c = 0 then j else c - 1))] at h2
  rw [h1, h2, ← Int.mul_assoc, alt_sq, Int.one_mul]
  unfold mnr
  refine dt_congr fun r c _ _ => ?_
  unfold brd
  by_cases h : r = 0 <;> by_cases h' : c = 0 <;> simp [h, h']
theorem mnr_step {A : Nat → Nat → Int} {k i j : Nat} (hp : dt k A ≠ 0) : dt k A * mnr A (k + 1) i j = mnr A k i j * mnr A k k k - mnr A k i k * mnr A k k j := by
  have h := dt_sylv (k := k) (M := fun r c => A (if r = 0 then i else if r = 1 then k else r - 2) (if c = 0 then j else if c = 1 then k else c - 2)) (by simpa using hp)
  rw [mnr_two] at h
  have e : ∀ (x y:Nat), x < 2 → y < 2 → dt (k + 1) (bd1 (fun r c => A (if r = 0 then i else if r = 1 then k else r - 2) (if c = 0 then j else if c = 1 then k else c - 2)) x y) = mnr A k (if x = 0 then i else k) (if y = 0 then j else k) := by
    intro x y hx hy
    unfold mnr
    refine dt_congr fun r c _ _ => ?_
    unfold bd1 brd
    have : x = 0 ∨ x = 1 := by omega
    have : y = 0 ∨ y = 1 := by omega
    by_cases h : r = 0 <;> by_cases h' : c = 0 <;> rcases ‹x = 0 ∨ x = 1› with rfl | rfl <;> rcases ‹y = 0 ∨ y = 1› with rfl | rfl <;> simp [h, h'] <;> rfl
  rw [e 0 0 (by omega) (by omega), e 1 1 (by omega) (by omega), e 0 1 (by omega) (by omega), e 1 0 (by omega) (by omega)] at h
  simpa using h
theorem mnr_diag {A : Nat → Nat → Int} {k : Nat} : mnr A k k k = dt (k + 1) A := dt_shift
theorem mnr_zero {A : Nat → Nat → Int} {i j : Nat} : mnr A 0 i j = A i j := by
  unfold mnr; rw [dt_lone fun c hc => by omega]; simp [dt, brd]
theorem mnr_over {A : Nat → Nat → Int} {k i j : Nat} : mnr (fun i j => A j i) k i j = mnr A k j i := by
  unfold mnr
  rw [← dt_over]
  refine dt_congr fun r c _ _ => ?_
  unfold brd
  by_cases h : r = 0 <;> by_cases h' : c = 0 <;> simp [h, h']
theorem dt_sing {n k : Nat} {A : Nat → Nat → Int} (hk : k < n) (hp : dt k A ≠ 0) (h : ∀ j, k ≤ j → j < n → mnr A k k j = 0) : dt n A = 0 := by
  obtain ⟨U, hU⟩ := cramer k A (A k)
  have h1 := dt_less (n := n) (M := A) (r := k) (p := dt k A) (k := k) (U := U) (g := fun t => t) hk (fun t ht => ⟨by omega, by omega⟩)
  rw [dt_congr (B := upd A k fun _ => 0) (fun i j hi hj => by
    unfold upd
    split
    · change dt k A * A k j - sumN (fun t => U t * A t j) k = 0
      by_cases hjk : j < k
      · rw [hU j hjk]; omega
      · have h2 := h j (by omega) hj
        unfold mnr at h2
        rw [dt_brd hp hU] at h2
        exact h2
    · rfl), dt_0 hk] at h1
  rcases Int.mul_eq_zero.1 h1.symm with h | h
  · exact absurd h hp
  · exact h
theorem dt_singc {n k : Nat} {A : Nat → Nat → Int} (hk : k < n) (hp : dt k A ≠ 0) (h : ∀ i, k ≤ i → i < n → mnr A k i k = 0) : dt n A = 0 := by
  rw [← dt_over]
  refine dt_sing hk ?_ fun j h1 h2 => by rw [mnr_over]; exact h j h1 h2
  rw [dt_over]; exact hp
def swp (A : Nat → Nat → Int) (r s:Nat) : Nat → Nat → Int := fun i => if i = r then A s else if i = s then A r else A i
theorem swp_upd {A : Nat → Nat → Int} {r s : Nat} (h : r ≠ s) : swp A r s = upd (upd A r (A s)) s (A r) := by
  funext i j; unfold swp upd
  by_cases h1 : i = r
  · subst h1; simp [h]
  · by_cases h2 : i = s
    · simp [h2, Ne.symm h]
    · simp [h1, h2]
theorem dt_swp {n r s : Nat} {A : Nat → Nat → Int} (hr : r < n) (hs : s < n) (h : r ≠ s) : dt n (swp A r s) = - dt n A := by
  rw [swp_upd h, dt_swap hr hs h]
theorem dt_swp_lo {k r s : Nat} {A : Nat → Nat → Int} (hr : k ≤ r) (hs : k ≤ s) : dt k (swp A r s) = dt k A :=
  dt_congr fun i j hi _ => by unfold swp; rw [if_neg (by omega), if_neg (by omega)]
theorem swp_lo {k r s i : Nat} {A : Nat → Nat → Int} (hr : k ≤ r) (hs : k ≤ s) (hi : i < k) : swp A r s i = A i := by unfold swp; rw [if_neg (by omega), if_neg (by omega)]
theorem swp_at {r s i : Nat} {A : Nat → Nat → Int} : swp A r s i = A (if i = r then s else if i = s then r else i) := by
  unfold swp; split
  · rfl
  · split <;> rfl
theorem mnr_swp {k r s i j : Nat} {A : Nat → Nat → Int} (hr : k ≤ r) (hs : k ≤ s) : mnr (swp A r s) k i j = mnr A k (if i = r then s else if i = s then r else i) j := by
  unfold mnr
  refine dt_congr fun x y hx hy => ?_
  unfold brd
  by_cases h : x = 0
  · simp only [h, if_true, swp_at]
  · simp only [h, if_false]
    rw [swp_lo hr hs (by omega)]
structure BI (n k:Nat) (a A : Nat → Nat → Int) (p:Int) : Prop where
  hp : p = dt k A
  p0 : p ≠ 0
  at_ : ∀ i j, k ≤ i → i < n → k ≤ j → j < n → a i j = mnr A k i j
theorem BI.start {n : Nat} {A : Nat → Nat → Int} : BI n 0 A A 1 := ⟨rfl, by decide, fun i j _ _ _ _ => mnr_zero.symm⟩
theorem BI.swap {n k s : Nat} {a A : Nat → Nat → Int} {p : Int} (h : BI n k a A p) (hs : k ≤ s) (hsn : s < n) (hk : k < n) : BI n k (swp a k s) (swp A k s) p where
  hp := by rw [dt_swp_lo (Nat.le_refl _) hs]; exact h.hp
  p0 := h.p0
  at_ := fun i j h1 h2 h3 h4 => by
    rw [mnr_swp (Nat.le_refl _) hs]
    unfold swp
    split
    · exact h.at_ s j hs hsn h3 h4
    · split
      · exact h.at_ k j (Nat.le_refl _) hk h3 h4
      · exact h.at_ i j h1 h2 h3 h4
theorem BI.exact {n k : Nat} {a A : Nat → Nat → Int} {p : Int} (h : BI n k a A p) {i j : Nat} (hk : k < n) (hi : k ≤ i) (hin : i < n) (hj : k ≤ j) (hjn : j < n) : a i j * a k k - a i k * a k j = p * mnr A (k + 1) i j := by
  rw [h.at_ i j hi hin hj hjn, h.at_ k k (Nat.le_refl _) hk (Nat.le_refl _) hk, h.at_ i k hi hin (Nat.le_refl _) hk, h.at_ k j (Nat.le_refl _) hk hj hjn, h.hp, mnr_step (by rw [← h.hp]; exact h.p0)]
theorem BI.step {n k : Nat} {a a' A : Nat → Nat → Int} {p : Int} (h : BI n k a A p) (hk : k < n) (h0 : a k k ≠ 0) (ha : ∀ i j, k < i → i < n → k < j → j < n → a' i j = (a i j * a k k - a i k * a k j).tdiv p) : BI n (k + 1) a' A (a k k) where
  hp := by rw [h.at_ k k (Nat.le_refl _) hk (Nat.le_refl _) hk, mnr_diag]
  p0 := h0
  at_ := fun i j h1 h2 h3 h4 => by
    rw [ha i j h1 h2 h3 h4, h.exact hk (by omega) h2 (by omega) h4, Int.mul_comm, Int.mul_tdiv_cancel _ h.p0]
theorem BI.last {n : Nat} {a A : Nat → Nat → Int} {p : Int} (h : BI (n + 1) n a A p) : a n n = dt (n + 1) A := by
  rw [h.at_ n n (Nat.le_refl _) (by omega) (Nat.le_refl _) (by omega), mnr_diag]
theorem BI.none {n k : Nat} {a A : Nat → Nat → Int} {p : Int} (h : BI n k a A p) (hk : k < n) (h0 : ∀ i, k ≤ i → i < n → a i k = 0) : dt n A = 0 :=
  dt_singc hk (by rw [← h.hp]; exact h.p0) fun i h1 h2 => by rw [← h.at_ i k h1 h2 (Nat.le_refl _) hk]; exact h0 i h1 h2
def pm (A : Nat → Nat → Int) : Prop := ∀ i j, A i j = 1 ∨ A i j = -1
theorem pm_dot {A : Nat → Nat → Int} (h : pm A) {n i : Nat} : dotN n (A i) (A i) = n := by
  unfold dotN
  induction n with
  | zero => rfl
  | succ n ih =>
    rw [sumN, ih]
    rcases h i n with e | e <;> rw [e] <;> omega
theorem pm_brd {A : Nat → Nat → Int} (h : pm A) {i j : Nat} : pm (brd A (A i) (fun r => A r j) (A i j)) := by
  intro r c; unfold brd
  split <;> split <;> exact h _ _
theorem pm_swp {A : Nat → Nat → Int} (h : pm A) {r s : Nat} : pm (swp A r s) := by
  intro i j; unfold swp
  split
  · exact h _ _
  · split <;> exact h _ _
theorem pow_self_le : ∀ n ∈ List.range 13, ((n:Int):Int) ^ n ≤ 2985984 * 2985984 := by decide +kernel
theorem sq_bound {x b : Int} (hb : 0 ≤ b) (h : x * x ≤ b * b) : -b ≤ x ∧ x ≤ b := by
  constructor
  · rcases Int.lt_or_le x (-b) with h1 | h1
    · exfalso
      have h2 : b * b < (-x) * (-x) := Int.mul_self_lt_mul_self hb (by omega)
      rw [Int.neg_mul_neg] at h2
      omega
    · exact h1
  · rcases Int.lt_or_le b x with h1 | h1
    · exfalso
      have h2 : b * b < x * x := Int.mul_self_lt_mul_self hb h1
      omega
    · exact h1
theorem pm_bound {A : Nat → Nat → Int} (h : pm A) {n : Nat} (hn : n ≤ 12) : -2985984 ≤ dt n A ∧ dt n A ≤ 2985984 := by
  refine sq_bound (by omega) ?_
  by_cases h0 : n = 0
  · subst h0; rw [dt]; decide
  · exact Int.le_trans (had_le (N := (n:Int)) (by omega) fun i _ => pm_dot h) (pow_self_le n (List.mem_range.2 (by omega)))
theorem pm_mk {A : Nat → Nat → Int} (h : pm A) {k i j : Nat} (hk : k < 12) : -2985984 ≤ mnr A k i j ∧ mnr A k i j ≤ 2985984 := pm_bound (pm_brd h) (by omega)
theorem dt_twice {n : Nat} {A B : Nat → Nat → Int} (h0 : A 0 = B 0) (h : ∀ i, 0 < i → A i = fun j => 2 * B i j) : dt (n + 1) A = 2 ^ n * dt (n + 1) B := by
  have key : ∀ t, t ≤ n → dt (n + 1) (fun i => if 0 < i ∧ i ≤ t then A i else B i) = 2 ^ t * dt (n + 1) B := by
    intro t
    induction t with
    | zero =>
      intro _
      rw [Int.pow_zero, Int.one_mul]
      congr 1
      funext i
      rw [if_neg (by omega)]
    | succ t ih =>
      intro ht
      have e : (fun i => if 0 < i ∧ i ≤ t + 1 then A i else B i) = upd (fun i => if 0 < i ∧ i ≤ t then A i else B i) (t + 1) (fun j => 2 * B (t + 1) j) := by
        funext i
        by_cases h1 : i = t + 1
        · subst h1; rw [upd_at, if_pos (by omega), h _ (by omega)]
        · rw [upd_ne h1]
          by_cases h2 : 0 < i ∧ i ≤ t
          · rw [if_pos (by omega), if_pos h2]
          · rw [if_neg (by omega), if_neg h2]
      have e2 : upd (fun i => if 0 < i ∧ i ≤ t then A i else B i) (t + 1) (B (t + 1)) = fun i => if 0 < i ∧ i ≤ t then A i else B i := by
        funext i
        by_cases h1 : i = t + 1
        · subst h1; rw [upd_at, if_neg (by omega)]
        · rw [upd_ne h1]
      rw [e, dt_scale (by omega), e2, ih (by omega), Int.pow_succ]
      grind
  rw [← key n (Nat.le_refl _)]
  refine dt_congr fun i j hi _ => ?_
  by_cases h1 : 0 < i
  · simp only [h1, true_and, show i ≤ n by omega, if_true]
  · simp only [h1, false_and, if_false]
    rw [show i = 0 by omega, h0]
theorem pm_even {A : Nat → Nat → Int} (h : pm A) {n : Nat} : ∃ q, dt (n + 1) A = 2 ^ n * q := by
  refine ⟨dt (n + 1) (fun i j => if i = 0 then A 0 j else (A i j - A 0 j) / 2), ?_⟩
  rw [← dt_twice (A := fun i j => if i = 0 then A 0 j else A i j - A 0 j) (by funext j; simp) (fun i hi => by
    funext j
    rw [if_neg (by omega), if_neg (by omega)]
    rcases h i j with e | e <;> rcases h 0 j with e' | e' <;> rw [e, e'] <;> decide)]
  refine (dt_ops (s := 0) (by omega) (fun _ => -1) ?_ ?_).symm
  · funext j; simp
  · intro i _ hi
    funext j
    rw [if_neg hi]; omega
theorem dt_negrow {n r : Nat} {A : Nat → Nat → Int} (hr : r < n) : dt n (fun i j => if i = r then - A i j else A i j) = - dt n A := by
  have e : (fun i j => if i = r then - A i j else A i j) = upd A r fun j => (-1) * A r j := by
    funext i j; unfold upd; split
    · rename_i h; rw [h]; show -A r j = (-1) * A r j; omega
    · rfl
  rw [e, dt_scale hr, upd_self]; omega
end Go.Signs
