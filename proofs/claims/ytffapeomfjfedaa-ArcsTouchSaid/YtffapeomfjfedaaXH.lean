/- Blocking: contracts that read a slice which is written to elsewhere, and the law's. -/
import Derived.Test.YtffapeomfjfedaaXG
import Derived.Test.YtffapeomfjfedaaAT
set_option linter.unusedVariables false
set_option linter.unusedSimpArgs false
namespace Go.Arcs
open Go Go.Ab Go.Proofs

abbrev AI : TB := .arr I64 true
def restF (p : Int) (l : List Int) : List Int := flt (fun x => !l.contains (x : Int)) (p * p + p + 1).toNat
end Go.Arcs

set_option linter.unusedVariables false
set_option linter.unusedSimpArgs false
namespace Go.Arcs
open Go Go.Ab Go.Proofs

end Go.Arcs

set_option linter.unusedVariables false
set_option linter.unusedSimpArgs false
namespace Go.Arcs
open Go Go.Ab Go.Proofs

/-! ### Sums -/
def sumN (f : Nat → Int) : Nat → Int
  | 0 => 0
  | n + 1 => sumN f n + f n
def sumL (f : Int → Int) : List Int → Int
  | [] => 0
  | x :: l => f x + sumL f l
def ind (b : Bool) : Int := if b = true then 1 else 0

theorem sumN_congr {f g : Nat → Int} : ∀ {n : Nat}, (∀ i, i < n → f i = g i) → sumN f n = sumN g n
  | 0, _ => rfl
  | n + 1, h => by rw [sumN, sumN, sumN_congr fun i hi => h i (by omega), h n (by omega)]
theorem sumN_add {f g : Nat → Int} : ∀ {n : Nat}, sumN (fun i => f i + g i) n = sumN f n + sumN g n
  | 0 => rfl
  | n + 1 => by rw [sumN, sumN, sumN, sumN_add]; omega
theorem sumN_mul {f : Nat → Int} {c : Int} : ∀ {n : Nat}, sumN (fun i => c * f i) n = c * sumN f n
  | 0 => by simp [sumN]
  | n + 1 => by rw [sumN, sumN, sumN_mul, Int.mul_add]
theorem sumN_const {c : Int} : ∀ {n : Nat}, sumN (fun _ => c) n = n * c
  | 0 => by simp [sumN]
  | n + 1 => by rw [sumN, sumN_const]; grind
theorem sumN_nonneg {f : Nat → Int} : ∀ {n : Nat}, (∀ i, i < n → 0 ≤ f i) → 0 ≤ sumN f n
  | 0, _ => Int.le_refl _
  | n + 1, h => by
    have h1 := sumN_nonneg (n := n) fun i hi => h i (by omega)
    have h2 := h n (by omega)
    rw [sumN]; omega
theorem sumN_ge {f : Nat → Int} {i : Nat} : ∀ {n : Nat}, i < n → (∀ k, k < n → 0 ≤ f k) → f i ≤ sumN f n
  | n + 1, hi, h => by
    rw [sumN]
    by_cases hn : i = n
    · subst hn
      have := sumN_nonneg (n := i) fun k hk => h k (by omega)
      omega
    · have := sumN_ge (f := f) (i := i) (n := n) (by omega) fun k hk => h k (by omega)
      have := h n (by omega)
      omega
theorem sumN_count {q : Nat → Bool} : ∀ {n : Nat}, sumN (fun i => ind (q i)) n = ((List.range n).countP q : Int)
  | 0 => rfl
  | n + 1 => by
    rw [sumN, sumN_count, List.range_succ, List.countP_append, List.countP_singleton]
    cases q n <;> simp [ind]
theorem sumL_count {q : Int → Bool} : ∀ {l : List Int}, sumL (fun x => ind (q x)) l = (l.countP q : Int)
  | [] => rfl
  | x :: l => by
    rw [sumL, sumL_count, List.countP_cons]
    cases q x <;> simp [ind] <;> omega
theorem sumL_congr {f g : Int → Int} : ∀ {l : List Int}, (∀ x ∈ l, f x = g x) → sumL f l = sumL g l
  | [], _ => rfl
  | x :: l, h => by rw [sumL, sumL, sumL_congr fun y hy => h y (by simp [hy]), h x (by simp)]
theorem sumL_const {c : Int} : ∀ {l : List Int}, sumL (fun _ => c) l = l.length * c
  | [] => by simp [sumL]
  | x :: l => by rw [sumL, sumL_const, List.length_cons]; grind
theorem sumL_mul {f : Int → Int} {c : Int} : ∀ {l : List Int}, sumL (fun x => c * f x) l = c * sumL f l
  | [] => by simp [sumL]
  | x :: l => by rw [sumL, sumL, sumL_mul, Int.mul_add]
theorem sum_swap {f : Nat → Int → Int} {n : Nat} : ∀ {l : List Int}, sumN (fun b => sumL (f b) l) n = sumL (fun x => sumN (fun b => f b x) n) l
  | [] => by simp only [sumL]; rw [sumN_const, Int.mul_zero]
  | x :: l => by simp only [sumL]; rw [sumN_add, sum_swap]
theorem sumL_pick {x : Int} {A B : Int} : ∀ {l : List Int}, ris l = true → (x ∈ l → sumL (fun y => if x = y then A else B) l = A + (l.length - 1) * B) ∧ (x ∉ l → sumL (fun y => if x = y then A else B) l = l.length * B)
  | [], _ => ⟨fun h => (by cases h), fun _ => by simp [sumL]⟩
  | y :: l, hr => by
    obtain ⟨h1, h2⟩ := ris_cons hr
    obtain ⟨k1, k2⟩ := sumL_pick (x := x) (A := A) (B := B) h1
    rw [sumL, List.length_cons]
    constructor
    · intro hx
      by_cases e : x = y
      · subst e
        rw [if_pos rfl, k2 (fun hc => by have := h2 x hc; omega)]
        grind
      · rcases List.mem_cons.1 hx with h | h
        · exact absurd h e
        · rw [if_neg e, k1 h]; grind
    · intro hx
      rw [List.mem_cons, not_or] at hx
      rw [if_neg hx.1, k2 hx.2]; grind

/-! ### Two points are on one line -/
def mask : List Bool → Nat
  | [] => 0
  | b :: l => (if b = true then 1 else 0) + 2 * mask l
theorem mask_bit : ∀ {l : List Bool} {j : Nat}, (mask l).testBit j = l.getD j false
  | [], j => by simp [mask]
  | b :: l, 0 => by cases b <;> simp [mask, Nat.testBit_zero] <;> omega
  | b :: l, j + 1 => by
    rw [Nat.testBit_succ]
    have : mask (b :: l) / 2 = mask l := by cases b <;> simp [mask] <;> omega
    rw [this, mask_bit]; rfl
def pc : Nat → Nat → Nat
  | 0, _ => 0
  | k + 1, x => x % 2 + pc k (x / 2)
theorem pc_eq : ∀ (k x : Nat), (List.range k).countP (fun j => x.testBit j) = pc k x
  | 0, _ => rfl
  | k + 1, x => by
    rw [List.range_succ_eq_map, List.countP_cons, List.countP_map, pc, ← pc_eq k (x / 2), Nat.add_comm]
    congr 1
    · rw [Nat.testBit_zero]
      rcases Nat.mod_two_eq_zero_or_one x with h | h <;> rw [h] <;> rfl
    · congr 1
      funext j
      show x.testBit (j + 1) = _
      rw [Nat.testBit_succ]
def frcB (n : Nat) (f : Nat → Bool) : Bool := Nat.rec (f 0) (fun m _ => f (m + 1)) n
theorem frcB_eq {n : Nat} {f : Nat → Bool} : frcB n f = f n := by cases n <;> rfl
def pairsOk (k : Nat) : List (List Bool) → List Nat → Bool
  | [], _ => true
  | r :: rs, acc => frcB (mask r) fun m => acc.all (fun m' => Nat.beq (pc k (m &&& m')) 1) && pairsOk k rs (m :: acc)
theorem pairsOk_spec {k : Nat} : ∀ {rs : List (List Bool)} {acc : List Nat}, pairsOk k rs acc = true → (∀ i, ∀ m ∈ acc, i < rs.length → pc k (mask (rs.getD i []) &&& m) = 1) ∧ ∀ i j, j < i → i < rs.length → pc k (mask (rs.getD i []) &&& mask (rs.getD j [])) = 1
  | [], _, _ => ⟨fun i m _ h => by simp at h, fun i j _ h => by simp at h⟩
  | r :: rs, acc, h => by
    rw [pairsOk, frcB_eq, Bool.and_eq_true, List.all_eq_true] at h
    obtain ⟨h1, h2⟩ := h
    obtain ⟨k1, k2⟩ := pairsOk_spec h2
    constructor
    · intro i m hm hi
      cases i with
      | zero => exact Nat.eq_of_beq_eq_true (h1 m hm)
      | succ i => exact k1 i m (List.mem_cons_of_mem _ hm) (by simpa using hi)
    · intro i j hj hi
      cases i with
      | zero => omega
      | succ i =>
        cases j with
        | zero => exact k1 i _ (List.mem_cons_self ..) (by simpa using hi)
        | succ j => exact k2 i j (by omega) (by simpa using hi)
theorem pairs_all : ∀ p ∈ ([2, 3, 5, 7] : List Int), pairsOk (ptsC p).length (tabF p) [] = true := by decide +kernel

section
variable {p : Int}
theorem tab_len' : (tabF p).length = (ptsC p).length := by simp [tabF]
theorem tab_rowN {x b : Nat} (hp : isP p) (hx : x < (ptsC p).length) (hb : b < (ptsC p).length) : ((tabF p).getD x []).getD b false = onF p x b := by
  have := tat_on (p := p) (x := x) (b := b) hp (inPt_nat hp hx) (inPt_nat hp hb)
  rw [← this]
  unfold tAt
  rw [Int.toNat_natCast, Int.toNat_natCast]
/-- The lines through a point, and through two. -/
theorem through_one (hp : isP p) {x : Nat} (hx : x < (ptsC p).length) : sumN (fun b => ind (onF p x b)) (ptsC p).length = p + 1 := by
  rw [sumN_count]
  have := cnt_tab p (isP_mem hp) x (List.mem_range.2 hx)
  rw [← this]
  congr 2
  funext b
  exact onF_comm
theorem through_two (hp : isP p) {x y : Nat} (hx : x < (ptsC p).length) (hy : y < (ptsC p).length) (hne : x ≠ y) : sumN (fun b => ind (onF p x b) * ind (onF p y b)) (ptsC p).length = 1 := by
  have key : ∀ x y : Nat, y < x → x < (ptsC p).length → sumN (fun b => ind (onF p x b) * ind (onF p y b)) (ptsC p).length = 1 := fun x y hyx hx => by
    have h := (pairsOk_spec (pairs_all p (isP_mem hp))).2 x y hyx (by rw [tab_len']; exact hx)
    rw [← pc_eq] at h
    have e : sumN (fun b => ind (onF p x b) * ind (onF p y b)) (ptsC p).length = sumN (fun b => ind ((mask ((tabF p).getD x []) &&& mask ((tabF p).getD y [])).testBit b)) (ptsC p).length := sumN_congr fun b hb => by
      rw [Nat.testBit_and, mask_bit, mask_bit, tab_rowN hp hx hb, tab_rowN hp (by omega) hb]
      cases onF p x b <;> cases onF p y b <;> rfl
    rw [e, sumN_count, h]; rfl
  rcases Nat.lt_or_ge y x with h | h
  · exact key x y h hx
  · rw [← key y x (by omega) hy]
    exact sumN_congr fun b _ => Int.mul_comm _ _

variable {l : List Int}
theorem in_nat (hl : l.all (inPt p) = true) (hp : isP p) {x : Int} (hx : x ∈ l) : ∃ n : Nat, x = n ∧ n < (ptsC p).length := by
  rw [List.all_eq_true] at hl
  have := inPt_iff.1 (hl x hx)
  have hn := pts_len p (isP_mem hp)
  exact ⟨x.toNat, by omega, by omega⟩
theorem meets_sum {b : Int} : meetsF p l b = sumL (fun x => ind (onF p x b)) l := (sumL_count (q := fun x => onF p x b)).symm

theorem sum_at (hp : isP p) (hl : l.all (inPt p) = true) {x : Nat} (hx : x < (ptsC p).length) (hn : (x : Int) ∉ l) : sumN (fun b => ind (onF p x b) * meetsF p l b) (ptsC p).length = l.length := by
  rw [sumN_congr (g := fun b => sumL (fun y => ind (onF p x b) * ind (onF p y b)) l) fun b _ => by rw [meets_sum, sumL_mul], sum_swap]
  have : (l.length : Int) = sumL (fun _ => 1) l := by rw [sumL_const, Int.mul_one]
  rw [this]
  refine sumL_congr fun y hy => ?_
  obtain ⟨m, rfl, hm⟩ := in_nat hl hp hy
  exact through_two hp hx hm fun e => hn (e ▸ hy)

/-! ### The points that are not in a set -/
theorem cnt_in {f : Int → Bool} : ∀ (n : Nat) (lo : Int) (l : List Int), ris l = true → (∀ x ∈ l, lo ≤ x ∧ x < lo + n) → l.countP f = (List.range n).countP (fun (i : Nat) => l.contains (lo + i) && f (lo + i))
  | 0, lo, [], _, _ => by simp
  | 0, lo, x :: l, _, h => by have := h x (by simp); omega
  | n + 1, lo, [], _, _ => by simp
  | n + 1, lo, x :: l, hr, h => by
    obtain ⟨hr', hlt⟩ := ris_cons hr
    have hx := h x (by simp)
    have e : ∀ g : Int → Bool, (List.range (n + 1)).countP (fun (i : Nat) => g (lo + i)) = (if g lo = true then 1 else 0) + (List.range n).countP (fun (i : Nat) => g (lo + 1 + i)) := fun g => by
      rw [List.range_succ_eq_map, List.countP_cons, List.countP_map, Nat.add_comm]
      have : ((fun i : Nat => g (lo + i)) ∘ Nat.succ) = fun i : Nat => g (lo + 1 + i) := by
        funext i
        show g (lo + ((i + 1 : Nat) : Int)) = g (lo + 1 + i)
        congr 1; omega
      rw [this]
      simp
    rw [e (fun z => (x :: l).contains z && f z)]
    by_cases hx0 : x = lo
    · subst hx0
      have ih := cnt_in (f := f) n (x + 1) l hr' (fun y hy => by have h1 := h y (by simp [hy]); have h2 := hlt y hy; omega)
      have e2 : (List.range n).countP (fun (i : Nat) => (x :: l).contains (x + 1 + i) && f (x + 1 + i)) = (List.range n).countP (fun (i : Nat) => l.contains (x + 1 + i) && f (x + 1 + i)) := by
        refine List.countP_congr fun i _ => ?_
        have : ((x :: l).contains (x + 1 + (i : Int))) = l.contains (x + 1 + (i : Int)) := by
          rw [List.contains_cons]
          have : ((x + 1 + (i : Int)) == x) = false := by simp; omega
          rw [this, Bool.false_or]
        rw [this]
      rw [e2, ← ih, List.countP_cons]
      have : (x :: l).contains x = true := by simp
      simp only [this, Bool.true_and]
      omega
    · have ih := cnt_in (f := f) n (lo + 1) (x :: l) hr (fun y hy => by
        rcases List.mem_cons.1 hy with rfl | hy'
        · omega
        · have h1 := h y (by simp [hy']); have h2 := hlt y hy'; omega)
      have hno : (x :: l).contains lo = false := by
        rw [Bool.eq_false_iff]
        intro hc
        rcases List.mem_cons.1 (List.contains_iff_mem.1 hc) with h1 | h1
        · exact hx0 h1.symm
        · have := hlt lo h1; omega
      simp only [hno, Bool.false_and, Bool.false_eq_true, if_false, Nat.zero_add]
      exact ih

theorem rest_N (hp : isP p) : (p * p + p + 1).toNat = (ptsC p).length := by
  have := pts_len p (isP_mem hp)
  omega
theorem rest_mem (hp : isP p) {x : Int} (hx : x ∈ restF p l) : ∃ n : Nat, x = n ∧ n < (ptsC p).length ∧ l.contains x = false := by
  unfold restF flt at hx
  rw [rest_N hp] at hx
  obtain ⟨n, hn, rfl⟩ := List.mem_map.1 hx
  rw [List.mem_filter] at hn
  exact ⟨n, rfl, List.mem_range.1 hn.1, by simpa using hn.2⟩
theorem cnt_split {q f : Nat → Bool} : ∀ {l : List Nat}, l.countP (fun i => q i && f i) + l.countP (fun i => !q i && f i) = l.countP f
  | [] => rfl
  | x :: l => by
    have := cnt_split (q := q) (f := f) (l := l)
    rw [List.countP_cons, List.countP_cons, List.countP_cons]
    cases q x <;> cases f x <;> simp <;> omega
theorem rest_count (hp : isP p) (hl : l.all (inPt p) = true) (hr : ris l = true) (f : Int → Bool) : l.countP f + (restF p l).countP f = (List.range (ptsC p).length).countP fun (i : Nat) => f i := by
  have hN := pts_len p (isP_mem hp)
  rw [List.all_eq_true] at hl
  have h1 := cnt_in (f := f) (ptsC p).length 0 l hr (fun x hx => by have := inPt_iff.1 (hl x hx); omega)
  have h2 : (restF p l).countP f = (List.range (ptsC p).length).countP (fun (i : Nat) => !l.contains (i : Int) && f i) := by
    unfold restF flt
    rw [rest_N hp, List.countP_map, List.countP_filter]
    refine List.countP_congr fun i _ => ?_
    rw [Bool.and_comm]; rfl
  rw [h1, h2]
  simp only [Int.zero_add]
  exact cnt_split (q := fun i => l.contains (i : Int)) (f := fun i => f i)
theorem rest_len (hp : isP p) (hl : l.all (inPt p) = true) (hr : ris l = true) : (l.length : Int) + (restF p l).length = p * p + p + 1 := by
  have h := rest_count hp hl hr (fun _ => true)
  have hN := pts_len p (isP_mem hp)
  simp at h
  omega

end

end Go.Arcs

set_option linter.unusedVariables false
set_option linter.unusedSimpArgs false
namespace Go.Arcs
open Go Go.Ab Go.Proofs

section
variable {p : Int} {l : List Int}
end

end Go.Arcs
