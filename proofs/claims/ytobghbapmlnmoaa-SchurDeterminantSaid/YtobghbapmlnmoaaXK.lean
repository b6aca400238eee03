/- The rule of strips for values. -/
import Derived.Test.YtobghbapmlnmoaaK1
set_option linter.unusedVariables false
set_option linter.unusedSimpArgs false
namespace Go.Schur
open Go Go.Ab Go.Proofs

theorem sR_zero : ∀ {ys : List Int} {l : List Nat}, sR ys (l ++ [0]) = sR ys l
  | [], l => by simp [sR, isZ]
  | y :: ys, l => by
    rw [sR, sR, subs_zero, sL_map]
    refine sL_congr fun ν _ => ?_
    rw [sR_zero]; simp
theorem sR_zeros {ys : List Int} {l : List Nat} {z : Nat} : sR ys (l ++ List.replicate z 0) = sR ys l := by
  induction z with
  | zero => simp
  | succ z ih => rw [List.replicate_succ', ← List.append_assoc, sR_zero, ih]
theorem sR_strip {ys : List Int} {l : List Nat} (h : Dec l) : sR ys l = sR ys (strip l) := by
  obtain ⟨z, hz⟩ := strip_dec h
  rw [hz, sR_zeros, ← hz]
/-- By the greatest number, over shapes. -/
theorem sR_less {y : Int} {ys : List Int} {p : List Nat} (hp : p ∈ allP) : sR (y :: ys) p = sL (List.range (p.sum + 1)) fun k => pw y k * sL (less k p) (sR ys) := by
  rw [sR]
  have e1 : (sL (subs p) fun ν => pw y (p.sum - ν.sum) * sR ys ν) = sL (subs p) fun ν => sL (List.range (p.sum + 1)) fun k => cond (Nat.beq (ν.sum + k) p.sum) (pw y k * sR ys ν) 0 := sL_congr fun ν hν => by
    have := subs_sum hν
    rw [sL_single (a := p.sum - ν.sum) List.nodup_range (List.mem_range.2 (by omega)) (fun b _ => by rw [Nat.beq_eq]; omega)]
  rw [e1, sL_comm]
  refine sL_congr fun k hk => ?_
  have hk := List.mem_range.1 hk
  rw [← sL_filter (p := fun ν => Nat.beq (ν.sum + k) p.sum) (f := fun ν => pw y k * sR ys ν), sL_mul, ← subs_less p hp k (List.mem_range.2 hk), sL_map]
  congr 1
  exact sL_congr fun ν hν => sR_strip (subs_dec (List.mem_filter.1 hν).1).1
/-- The value of a single row. -/
def hR (ys : List Int) (r : Nat) : Int := sR ys [r]
theorem hR_step {y : Int} {ys : List Int} {r : Nat} : hR (y :: ys) r = sL (List.range (r + 1)) fun v => pw y (r - v) * hR ys v := by
  unfold hR
  rw [sR]
  have : subs [r] = (List.range (r + 1)).map fun v => [v] := by
    show (upTo 0 r).flatMap _ = _
    simp [upTo, subs, List.flatMap_def, List.map_map]
    induction (List.range (r + 1)) with
    | nil => rfl
    | cons a l ih => simp [Function.comp] at ih ⊢; exact ih
  rw [this, sL_map]
  exact sL_congr fun v _ => by simp
theorem sL_range_shift {n m d : Nat} {G : Nat → Int} (hd : d + m ≤ n) (h1 : ∀ k, k < d → G k = 0) (h2 : ∀ k, d + m ≤ k → k < n → G k = 0) : sL (List.range n) G = sL (List.range m) fun j => G (d + j) := by
  have e : List.range n = List.range d ++ ((List.range m).map (d + ·) ++ (List.range (n - d - m)).map (d + m + ·)) := by
    conv => lhs; rw [show n = d + (m + (n - d - m)) by omega]
    rw [List.range_add, List.range_add, List.map_append, List.map_map]
    congr 3
    funext x; simp [Function.comp, Nat.add_assoc]
  rw [e, sL_app, sL_app, sL_map, sL_map]
  have z1 : sL (List.range d) G = 0 := Eq.trans (sL_congr (g := fun _ => (0 : Int)) fun k hk => h1 k (List.mem_range.1 hk)) sL_zero
  have z2 : (sL (List.range (n - d - m)) fun a => G (d + m + a)) = 0 := Eq.trans (sL_congr (g := fun _ => (0 : Int)) fun k hk => h2 _ (by omega) (by have := List.mem_range.1 hk; omega)) sL_zero
  rw [z1, z2]; omega
theorem sL_const {A : Type} {l : List A} {c : Int} : sL l (fun _ => c) = (l.length : Int) * c := by
  induction l with
  | nil => simp [sL]
  | cons a l ih => rw [sL_cons, ih, List.length_cons, show (((l.length + 1 : Nat)) : Int) = (l.length : Int) + 1 by omega, Int.add_mul, Int.one_mul, Int.add_comm]
theorem P_allP {n : Nat} {p : List Nat} (hn : n ≤ 8) (h : p ∈ P n) : p ∈ allP := allP_iff.2 ⟨n, hn, h⟩

/-- Strips added to μ. -/
def more (n : Nat) (μ : List Nat) : List (List Nat) := (P n).filter fun p => memb μ p
theorem pieri : ∀ {ys : List Int} {m r : Nat} {μ : List Nat}, m + r ≤ 8 → μ ∈ P m → sR ys μ * hR ys r = sL (more (m + r) μ) (sR ys)
  | [], m, r, μ, h, hμ => by
    have hs := sum_P (by omega) hμ
    have key : ∀ n ∈ List.range 9, ∀ p ∈ P n, isZ p = Nat.beq n 0 := by decide +kernel
    have e1 : sR [] μ = cond (Nat.beq m 0) 1 0 := by rw [sR, key m (List.mem_range.2 (by omega)) μ hμ]
    have e2 : hR [] r = cond (Nat.beq r 0) 1 0 := by unfold hR; rw [sR]; cases r <;> rfl
    have e3 : sL (more (m + r) μ) (sR []) = sL (more (m + r) μ) fun _ => cond (Nat.beq (m + r) 0) 1 0 := sL_congr fun p hp => by
      rw [sR, key (m + r) (List.mem_range.2 (by omega)) p (List.mem_filter.1 hp).1]
    rw [e1, e2, e3]
    by_cases hm : m = 0
    · subst hm
      by_cases hr : r = 0
      · subst hr
        have : μ = [] := by have : μ ∈ [[]] := hμ; simpa using this
        subst this
        decide
      · have hb : Nat.beq r 0 = false := by cases r with | zero => exact absurd rfl hr | succ r => rfl
        have hb2 : Nat.beq (0 + r) 0 = false := by rw [Nat.zero_add]; exact hb
        rw [hb, hb2]
        simp only [cond_false]
        rw [sL_zero]; simp
    · have hb : Nat.beq m 0 = false := by cases m with | zero => exact absurd rfl hm | succ r => rfl
      have hb2 : Nat.beq (m + r) 0 = false := by cases m with | zero => exact absurd rfl hm | succ m => rw [Nat.succ_add]; rfl
      rw [hb, hb2]
      simp only [cond_false]
      rw [sL_zero]; simp
  | y :: ys, m, r, μ, h, hμ => by
    have hs := sum_P (by omega) hμ
    have hall := P_allP (by omega) hμ
    -- how often ν comes, by way of λ
    let C : Nat → Nat → List Nat → Int := fun k v ν => if v ≤ m + r - k then (bothL (m + r - k - v) μ ν : Int) else 0
    -- the right side
    have hR1 : sL (more (m + r) μ) (sR (y :: ys)) = sL (List.range (m + r + 1)) fun k => pw y k * sL (P (m + r - k)) fun ν => (bothM (m + r) μ ν : Int) * sR ys ν := by
      have e1 : sL (more (m + r) μ) (sR (y :: ys)) = sL (more (m + r) μ) fun p => sL (List.range (m + r + 1)) fun k => pw y k * sL ((P (m + r - k)).filter fun ν => memb ν p) (sR ys) := sL_congr fun p hp => by
        have hpP := (List.mem_filter.1 hp).1
        have := sum_P (by omega) hpP
        rw [sR_less (P_allP (by omega) hpP), this]
        unfold less
        rw [this]
      rw [e1, sL_comm]
      refine sL_congr fun k _ => ?_
      rw [sL_mul, sL_swap (r := fun p ν => memb ν p) (f := fun _ ν => sR ys ν)]
      congr 1
      refine sL_congr fun ν _ => ?_
      rw [sL_const]
      unfold bothM more
      rw [List.filter_filter]
      congr 3
      exact List.filter_congr fun p _ => Bool.and_comm ..
    -- the left side
    have hL1 : sR (y :: ys) μ * hR (y :: ys) r = sL (List.range (r + 1)) fun v => sL (List.range (m + 1)) fun k1 => pw y (r - v + k1) * sL (P (m - k1 + v)) fun ν => (bothL (m - k1) μ ν : Int) * sR ys ν := by
      rw [hR_step, ← sL_mul]
      refine sL_congr fun v hv => ?_
      have hv := List.mem_range.1 hv
      rw [sR_less hall, hs, ← sL_mulr]
      refine sL_congr fun k1 hk => ?_
      have hk := List.mem_range.1 hk
      have e2 : sL (less k1 μ) (sR ys) * hR ys v = sL (P (m - k1 + v)) fun ν => (bothL (m - k1) μ ν : Int) * sR ys ν := by
        rw [← sL_mulr]
        have e3 : (sL (less k1 μ) fun a => sR ys a * hR ys v) = sL (less k1 μ) fun a => sL ((P (m - k1 + v)).filter fun ν => memb a ν) fun ν => sR ys ν := sL_congr fun a ha => pieri (by omega) (less_P (by omega) hμ ha)
        rw [e3, sL_swap (r := fun a ν => memb a ν) (f := fun _ ν => sR ys ν)]
        refine sL_congr fun ν _ => ?_
        rw [sL_const]
        unfold bothL less
        rw [List.filter_filter, hs]
        congr 3
        exact List.filter_congr fun p _ => Bool.and_comm ..
      rw [pw_add, ← e2]
      simp only [Int.mul_assoc, Int.mul_comm, Int.mul_left_comm]
    rw [hL1, hR1]
    -- the table
    have hT : ∀ k, k ≤ m + r → ∀ ν ∈ P (m + r - k), (bothM (m + r) μ ν : Int) = sL (List.range (r + 1)) fun v => C k v ν := fun k hk ν hν => by
      have := strips μ hall r (List.mem_range.2 (by omega)) k (List.mem_range.2 (by omega)) ν (by rw [hs]; exact hν)
      rw [hs] at this
      rw [this]
      unfold sumN'
      rw [sum_cast, sL_map]
      refine sL_congr fun v _ => ?_
      show (((if v ≤ m + r - k then bothL (m + r - k - v) μ ν else 0 : Nat)) : Int) = C k v ν
      unfold C
      split <;> rfl
    have e4 : (sL (List.range (m + r + 1)) fun k => pw y k * sL (P (m + r - k)) fun ν => (bothM (m + r) μ ν : Int) * sR ys ν) = sL (List.range (r + 1)) fun v => sL (List.range (m + r + 1)) fun k => pw y k * sL (P (m + r - k)) fun ν => C k v ν * sR ys ν := by
      rw [sL_comm]
      refine sL_congr fun k hk => ?_
      have hk := List.mem_range.1 hk
      rw [sL_mul, sL_comm]
      congr 1
      refine sL_congr fun ν hν => ?_
      rw [sL_mulr, hT k (by omega) ν hν]
    rw [e4]
    refine sL_congr fun v hv => ?_
    have hv := List.mem_range.1 hv
    have hz : ∀ k, (∀ ν ∈ P (m + r - k), C k v ν = 0) → pw y k * sL (P (m + r - k)) (fun ν => C k v ν * sR ys ν) = 0 := fun k hk => by
      have : sL (P (m + r - k)) (fun ν => C k v ν * sR ys ν) = 0 := Eq.trans (sL_congr (g := fun _ => (0 : Int)) fun ν hν => by rw [hk ν hν]; simp) sL_zero
      rw [this]; simp
    rw [sL_range_shift (n := m + r + 1) (d := r - v) (m := m + 1) (by omega)]
    · refine sL_congr fun k1 hk => ?_
      have hk := List.mem_range.1 hk
      rw [show m + r - (r - v + k1) = m - k1 + v by omega]
      congr 1
      refine sL_congr fun ν _ => ?_
      congr 1
      show _ = if v ≤ m + r - (r - v + k1) then (bothL (m + r - (r - v + k1) - v) μ ν : Int) else 0
      rw [if_pos (by omega), show m + r - (r - v + k1) - v = m - k1 by omega]
    · intro k hk
      refine hz k fun ν hν => ?_
      show (if v ≤ m + r - k then (bothL (m + r - k - v) μ ν : Int) else 0) = 0
      rw [if_pos (by omega)]
      have : bothL (m + r - k - v) μ ν = 0 := by
        unfold bothL
        rw [List.length_eq_zero_iff, List.filter_eq_nil_iff]
        intro l hl hb
        simp only [Bool.and_eq_true] at hb
        have h1 := memb_le l (P_allP (by omega) hl) μ hall hb.1
        have h2 := sum_P (by omega) hl
        omega
      rw [this]; rfl
    · intro k hk hk2
      refine hz k fun ν hν => ?_
      show (if v ≤ m + r - k then (bothL (m + r - k - v) μ ν : Int) else 0) = 0
      rw [if_neg (by omega)]
end Go.Schur

set_option linter.unusedVariables false
set_option linter.unusedSimpArgs false
namespace Go.Schur
open Go Go.Ab Go.Proofs
def cutC (j : Nat) (r : List Int) : List Int := r.take j ++ r.drop (j + 1)
def dLoop (D : List (List Int) → Int) (rest : List (List Int)) : List Int → Nat → Int → Int → Int
  | [], _, _, s => s
  | x :: xs, j, sg, s => dLoop D rest xs (j + 1) (wr .i64 (0 - sg)) (wr .i64 (s + wr .i64 (wr .i64 (sg * x) * D (rest.map (cutC j)))))
def detW : Nat → List (List Int) → Int
  | 0, _ => 0
  | k + 1, t => match t with
    | [] => 1
    | r0 :: rest => dLoop (detW k) rest r0 0 1 0
def preD2 (k : Nat) (t : List (List Int)) : Prop := t.length < k ∧ t.length ≤ 8 ∧ ∀ r ∈ t, r.length = t.length
noncomputable def con31 (k : Nat) : SCon := mkS 31 [.v LLI] [] [.v I64] [] (fun (t : List (List Int)) => [preD2 k t]) (fun (t : List (List Int)) => (detW k t, ()))
noncomputable def g31_l0 (n : Nat) (x0 : List (List Int)) (d2 : Int × Int × Int × Unit) (d3 : Int × List (List Int) × Unit) : Option (Lp (Int × List (List Int) × Unit) (Lp (Int × Int × Int × Unit) (Int × Unit))) := bif ilt d3.1 (↑(List.length (List.drop (1 : Nat) x0)) : Int) then gd ((0 : Int) ≤ d3.1 ∧ d3.1 < (↑(List.length (List.drop (1 : Nat) x0)) : Int)) (gd ((0 : Int) ≤ d2.2.2.1 ∧ d2.2.2.1 ≤ (↑(List.length (List.getD (List.drop (1 : Nat) x0) (Int.toNat d3.1) ([] : List Int))) : Int)) (gd (List.length (List.take (Int.toNat d2.2.2.1) (List.getD (List.drop (1 : Nat) x0) (Int.toNat d3.1) ([] : List Int))) ≤ (100000 : Nat)) (gd ((0 : Int) ≤ wr IntKind.i64 (d2.2.2.1 + (1 : Int)) ∧ wr IntKind.i64 (d2.2.2.1 + (1 : Int)) ≤ (↑(List.length (List.getD (List.drop (1 : Nat) x0) (Int.toNat d3.1) ([] : List Int))) : Int)) (gd (List.length (List.take (Int.toNat d2.2.2.1) (List.getD (List.drop (1 : Nat) x0) (Int.toNat d3.1) ([] : List Int))) ≤ List.length (List.take (Int.toNat d2.2.2.1) (List.getD (List.drop (1 : Nat) x0) (Int.toNat d3.1) ([] : List Int)))) (gd ((List.length (List.take (Int.toNat d2.2.2.1) (List.getD (List.drop (1 : Nat) x0) (Int.toNat d3.1) ([] : List Int))) + List.length (List.drop (Int.toNat (wr IntKind.i64 (d2.2.2.1 + (1 : Int)))) (List.getD (List.drop (1 : Nat) x0) (Int.toNat d3.1) ([] : List Int)))) * (8 : Nat) ≤ (1099511627776 : Nat)) (gd ((0 : Nat) + (List.length (List.take (Int.toNat d2.2.2.1) (List.getD (List.drop (1 : Nat) x0) (Int.toNat d3.1) ([] : List Int))) + List.length (List.drop (Int.toNat (wr IntKind.i64 (d2.2.2.1 + (1 : Int)))) (List.getD (List.drop (1 : Nat) x0) (Int.toNat d3.1) ([] : List Int)))) ≤ List.length (List.take (List.length (List.take (Int.toNat d2.2.2.1) (List.getD (List.drop (1 : Nat) x0) (Int.toNat d3.1) ([] : List Int)))) (List.take (Int.toNat d2.2.2.1) (List.getD (List.drop (1 : Nat) x0) (Int.toNat d3.1) ([] : List Int))) ++ List.drop (Int.toNat (wr IntKind.i64 (d2.2.2.1 + (1 : Int)))) (List.getD (List.drop (1 : Nat) x0) (Int.toNat d3.1) ([] : List Int)))) (gd (List.length d3.2.1 ≤ List.length d3.2.1) (gd ((List.length d3.2.1 + (1 : Nat)) * (24 : Nat) ≤ (1099511627776 : Nat)) (gd (List.length d3.2.1 + (1 : Nat) = List.length (List.take (List.length d3.2.1) d3.2.1 ++ List.take (List.length (List.take (Int.toNat d2.2.2.1) (List.getD (List.drop (1 : Nat) x0) (Int.toNat d3.1) ([] : List Int))) + List.length (List.drop (Int.toNat (wr IntKind.i64 (d2.2.2.1 + (1 : Int)))) (List.getD (List.drop (1 : Nat) x0) (Int.toNat d3.1) ([] : List Int)))) (List.drop (0 : Nat) (List.take (List.length (List.take (Int.toNat d2.2.2.1) (List.getD (List.drop (1 : Nat) x0) (Int.toNat d3.1) ([] : List Int)))) (List.take (Int.toNat d2.2.2.1) (List.getD (List.drop (1 : Nat) x0) (Int.toNat d3.1) ([] : List Int))) ++ List.drop (Int.toNat (wr IntKind.i64 (d2.2.2.1 + (1 : Int)))) (List.getD (List.drop (1 : Nat) x0) (Int.toNat d3.1) ([] : List Int)))) :: ([] : List (List Int)))) (some (Lp.go ((wr IntKind.i64 (d3.1 + (1 : Int)), List.take (List.length d3.2.1) d3.2.1 ++ List.take (List.length (List.take (Int.toNat d2.2.2.1) (List.getD (List.drop (1 : Nat) x0) (Int.toNat d3.1) ([] : List Int))) + List.length (List.drop (Int.toNat (wr IntKind.i64 (d2.2.2.1 + (1 : Int)))) (List.getD (List.drop (1 : Nat) x0) (Int.toNat d3.1) ([] : List Int)))) (List.drop (0 : Nat) (List.take (List.length (List.take (Int.toNat d2.2.2.1) (List.getD (List.drop (1 : Nat) x0) (Int.toNat d3.1) ([] : List Int)))) (List.take (Int.toNat d2.2.2.1) (List.getD (List.drop (1 : Nat) x0) (Int.toNat d3.1) ([] : List Int))) ++ List.drop (Int.toNat (wr IntKind.i64 (d2.2.2.1 + (1 : Int)))) (List.getD (List.drop (1 : Nat) x0) (Int.toNat d3.1) ([] : List Int)))) :: ([] : List (List Int)), ()) : Int × List (List Int) × Unit)))))))))))) else gd ((0 : Nat) + List.length d3.2.1 ≤ List.length d3.2.1) (gd (preD2 n (List.take (List.length d3.2.1) (List.drop (0 : Nat) d3.2.1))) (some (Lp.out (Lp.go ((wr IntKind.i64 (d2.1 + wr IntKind.i64 (wr IntKind.i64 (d2.2.1 * List.getD (List.getD x0 (0 : Nat) ([] : List Int)) (Int.toNat d2.2.2.1) (0 : Int)) * detW n (List.take (List.length d3.2.1) (List.drop (0 : Nat) d3.2.1)))), wr IntKind.i64 ((0 : Int) - d2.2.1), wr IntKind.i64 (d2.2.2.1 + (1 : Int)), ()) : Int × Int × Int × Unit)))))
noncomputable def g31 (n : Nat) (x0 : List (List Int)) : Option (Int × Unit) := bif ieq (↑(List.length x0) : Int) (0 : Int) then some (((1 : Int), ()) : Int × Unit) else gd ((0 : Int) ≤ (0 : Int) ∧ (0 : Int) < (↑(List.length x0) : Int)) (whileO (fun (d2 : Int × Int × Int × Unit) => bif ilt d2.2.2.1 (↑(List.length (List.getD x0 (0 : Nat) ([] : List Int))) : Int) then gd ((0 : Int) ≤ d2.2.2.1 ∧ d2.2.2.1 < (↑(List.length (List.getD x0 (0 : Nat) ([] : List Int))) : Int)) (gd ((0 : Int) ≤ (1 : Int) ∧ (1 : Int) ≤ (↑(List.length x0) : Int)) (gd ((0 : Nat) = (0 : Nat)) (whileO (g31_l0 n x0 d2) (((0 : Int), ([] : List (List Int)), ()) : Int × List (List Int) × Unit)))) else some (Lp.out ((d2.1, ()) : Int × Unit))) (((0 : Int), (1 : Int), (0 : Int), ()) : Int × Int × Int × Unit))
noncomputable def g31_sh : List LSh := LSh.mk (((3, TV.v (Ty.int IntKind.i64)) : Nat × TV) :: ((4, TV.v (Ty.int IntKind.i64)) : Nat × TV) :: ((17, TV.v (Ty.int IntKind.i64)) : Nat × TV) :: ([] : List (Nat × TV))) ([] : List TB) :: LSh.mk (((7, TV.slf (0) (1)) : Nat × TV) :: ((25, TV.v (Ty.int IntKind.i64)) : Nat × TV) :: ([] : List (Nat × TV))) (TB.arr (Ty.slice (Ty.int IntKind.i64)) true :: ([] : List TB)) :: ([] : List LSh)
noncomputable def con5 : Con := mkC 5 [.d LI, .d LI] [.bool] (fun (l x : List Int) => [small l ∧ small x]) (fun (l x : List Int) => (true, ()))
noncomputable def g5_l0 (x0 : List Int) (d3 : Int × List Int × List (List Int) × Unit) (d4 : Int × List Int × List (List Int) × List Int × Unit) : Option (Lp (Int × List Int × List (List Int) × List Int × Unit) (Lp (Int × List Int × List (List Int) × Unit) (Lp (Int × List Int × Unit) (Bool × Unit)))) := bif ilt d4.1 (↑(List.length x0) : Int) then gd ((0 : Int) ≤ wr IntKind.i64 (wr IntKind.i64 (wr IntKind.i64 (List.getD x0 (Int.toNat d3.1) (0 : Int) - d3.1) + d4.1) + (10 : Int)) ∧ wr IntKind.i64 (wr IntKind.i64 (wr IntKind.i64 (List.getD x0 (Int.toNat d3.1) (0 : Int) - d3.1) + d4.1) + (10 : Int)) < (20 : Int)) (gd ((0 : Nat) + Int.toNat (wr IntKind.i64 (wr IntKind.i64 (wr IntKind.i64 (List.getD x0 (Int.toNat d3.1) (0 : Int) - d3.1) + d4.1) + (10 : Int))) * (1 : Nat) < List.length d4.2.1) (gd (List.length d4.2.2.2.1 ≤ List.length d4.2.2.2.1) (gd ((List.length d4.2.2.2.1 + (1 : Nat)) * (8 : Nat) ≤ (1099511627776 : Nat)) (gd (List.length d4.2.2.1 = List.length d4.2.2.1) (gd (List.length d4.2.2.2.1 + (1 : Nat) = List.length (List.take (List.length d4.2.2.2.1) d4.2.2.2.1 ++ List.getD d4.2.1 ((0 : Nat) + Int.toNat (wr IntKind.i64 (wr IntKind.i64 (wr IntKind.i64 (List.getD x0 (Int.toNat d3.1) (0 : Int) - d3.1) + d4.1) + (10 : Int))) * (1 : Nat)) (0 : Int) :: ([] : List Int))) (some (Lp.go ((wr IntKind.i64 (d4.1 + (1 : Int)), d4.2.1, d4.2.2.1, List.take (List.length d4.2.2.2.1) d4.2.2.2.1 ++ List.getD d4.2.1 ((0 : Nat) + Int.toNat (wr IntKind.i64 (wr IntKind.i64 (wr IntKind.i64 (List.getD x0 (Int.toNat d3.1) (0 : Int) - d3.1) + d4.1) + (10 : Int))) * (1 : Nat)) (0 : Int) :: ([] : List Int), ()) : Int × List Int × List (List Int) × List Int × Unit)))))))) else gd ((0 : Nat) + List.length d4.2.2.2.1 ≤ List.length d4.2.2.2.1) (gd (List.length d4.2.2.1 ≤ List.length d4.2.2.1) (gd ((List.length d4.2.2.1 + (1 : Nat)) * (24 : Nat) ≤ (1099511627776 : Nat)) (gd (List.length d4.2.2.1 + (1 : Nat) = List.length (List.take (List.length d4.2.2.1) d4.2.2.1 ++ List.take (List.length d4.2.2.2.1) (List.drop (0 : Nat) d4.2.2.2.1) :: ([] : List (List Int)))) (some (Lp.out (Lp.go ((wr IntKind.i64 (d3.1 + (1 : Int)), d4.2.1, List.take (List.length d4.2.2.1) d4.2.2.1 ++ List.take (List.length d4.2.2.2.1) (List.drop (0 : Nat) d4.2.2.2.1) :: ([] : List (List Int)), ()) : Int × List Int × List (List Int) × Unit)))))))
noncomputable def g5 (x0 x1 : List Int) : Option (Bool × Unit) := gd (List.length (List.take (12 : Nat) x0) ≤ (1000 : Nat) ∧ List.length (List.take (12 : Nat) x1) ≤ (1000 : Nat)) (gd ((!!ieq (schF2 (List.take (12 : Nat) x0) (List.take (12 : Nat) x1)).2.1 (0 : Int)) = true → (!!ieq (schF2 (List.take (12 : Nat) x0) (List.take (12 : Nat) x1)).2.1 (0 : Int)) = true ∧ small x0) (gd ((!!ieq (schF2 (List.take (12 : Nat) x0) (List.take (12 : Nat) x1)).2.1 (0 : Int)) = true → (!!ieq (schF2 (List.take (12 : Nat) x0) (List.take (12 : Nat) x1)).2.1 (0 : Int)) = true) (gd ((!ieq (schF2 (List.take (12 : Nat) x0) (List.take (12 : Nat) x1)).2.1 (0 : Int)) = false → (!!ieq (schF2 (List.take (12 : Nat) x0) (List.take (12 : Nat) x1)).2.1 (0 : Int)) = true) (bif bif !ieq (schF2 (List.take (12 : Nat) x0) (List.take (12 : Nat) x1)).2.1 (0 : Int) then true else !shapeB x0 then gd (ieq (schF2 (List.take (12 : Nat) x0) (List.take (12 : Nat) x1)).2.1 (2 : Int) = true → ieq (schF2 (List.take (12 : Nat) x0) (List.take (12 : Nat) x1)).2.1 (2 : Int) = true) (some ((bif ieq (schF2 (List.take (12 : Nat) x0) (List.take (12 : Nat) x1)).2.1 (2 : Int) then true else false, ()) : Bool × Unit)) else gd ((10 : Nat) < (20 : Nat)) (whileO (fun (d2 : Int × List Int × Unit) => bif ile d2.1 (8 : Int) then gd ((1 : Nat) ≤ (1000 : Nat) ∧ List.length (List.take (12 : Nat) x1) ≤ (1000 : Nat)) (bif !ieq (schF2 (d2.1 :: ([] : List Int)) (List.take (12 : Nat) x1)).2.1 (0 : Int) then some (Lp.out ((false, ()) : Bool × Unit)) else gd ((0 : Int) ≤ wr IntKind.i64 (d2.1 + (10 : Int)) ∧ wr IntKind.i64 (d2.1 + (10 : Int)) < (20 : Int)) (gd ((0 : Nat) + Int.toNat (wr IntKind.i64 (d2.1 + (10 : Int))) * (1 : Nat) < List.length d2.2.1) (some (Lp.go ((wr IntKind.i64 (d2.1 + (1 : Int)), List.set d2.2.1 ((0 : Nat) + Int.toNat (wr IntKind.i64 (d2.1 + (10 : Int))) * (1 : Nat)) (schF2 (d2.1 :: ([] : List Int)) (List.take (12 : Nat) x1)).1, ()) : Int × List Int × Unit))))) else gd ((!ilt (4 : Int) (↑(List.length x0) : Int)) = true → (!ilt (4 : Int) (↑(List.length x0) : Int)) = true) (gd ((!ilt (4 : Int) (↑(List.length x0) : Int)) = true → (!ilt (4 : Int) (↑(List.length x0) : Int)) = true) (gd ((!ilt (4 : Int) (↑(List.length x0) : Int) && (!ilt (4 : Int) (↑(List.length x0) : Int) && ilt (0 : Int) (↑(List.length x0) : Int))) = true → (!ilt (4 : Int) (↑(List.length x0) : Int) && (!ilt (4 : Int) (↑(List.length x0) : Int) && ilt (0 : Int) (↑(List.length x0) : Int))) = true ∧ (0 : Int) ≤ (0 : Int) ∧ (0 : Int) < (↑(List.length x0) : Int)) (gd ((!ilt (4 : Int) (↑(List.length x0) : Int) && (!ilt (4 : Int) (↑(List.length x0) : Int) && ilt (0 : Int) (↑(List.length x0) : Int))) = true → (!ilt (4 : Int) (↑(List.length x0) : Int) && (!ilt (4 : Int) (↑(List.length x0) : Int) && ilt (0 : Int) (↑(List.length x0) : Int))) = true) (gd ((!ilt (4 : Int) (↑(List.length x0) : Int) && (!ilt (4 : Int) (↑(List.length x0) : Int) && ilt (0 : Int) (↑(List.length x0) : Int))) = true → (!ilt (4 : Int) (↑(List.length x0) : Int) && (!ilt (4 : Int) (↑(List.length x0) : Int) && ilt (0 : Int) (↑(List.length x0) : Int))) = true) (gd ((!ilt (4 : Int) (↑(List.length x0) : Int) && (!ilt (4 : Int) (↑(List.length x0) : Int) && ilt (0 : Int) (↑(List.length x0) : Int))) = true → (!ilt (4 : Int) (↑(List.length x0) : Int) && (!ilt (4 : Int) (↑(List.length x0) : Int) && ilt (0 : Int) (↑(List.length x0) : Int))) = true ∧ (!ilt (4 : Int) (↑(List.length x0) : Int) && (!ilt (4 : Int) (↑(List.length x0) : Int) && ilt (0 : Int) (↑(List.length x0) : Int))) = true) (gd ((!ilt (4 : Int) (↑(List.length x0) : Int) && (!ilt (4 : Int) (↑(List.length x0) : Int) && ilt (0 : Int) (↑(List.length x0) : Int))) = true → (!ilt (4 : Int) (↑(List.length x0) : Int) && (!ilt (4 : Int) (↑(List.length x0) : Int) && ilt (0 : Int) (↑(List.length x0) : Int))) = true) (gd ((!ilt (4 : Int) (↑(List.length x0) : Int)) = true → (!ilt (4 : Int) (↑(List.length x0) : Int)) = true ∧ (!ilt (4 : Int) (↑(List.length x0) : Int)) = true ∧ (ilt (0 : Int) (↑(List.length x0) : Int) = true → (!ilt (4 : Int) (↑(List.length x0) : Int) && (!ilt (4 : Int) (↑(List.length x0) : Int) && ilt (0 : Int) (↑(List.length x0) : Int))) = true)) (gd (ilt (4 : Int) (↑(List.length x0) : Int) = false → (!ilt (4 : Int) (↑(List.length x0) : Int)) = true) (bif bif ilt (4 : Int) (↑(List.length x0) : Int) then true else bif ilt (0 : Int) (↑(List.length x0) : Int) then ilt (9 : Int) (wr IntKind.i64 (List.getD x0 (0 : Nat) (0 : Int) + (↑(List.length x0) : Int))) else false then some (Lp.out ((true, ()) : Bool × Unit)) else gd ((0 : Nat) = (0 : Nat)) (whileO (fun (d3 : Int × List Int × List (List Int) × Unit) => bif ilt d3.1 (↑(List.length x0) : Int) then gd ((0 : Int) ≤ d3.1 ∧ d3.1 < (↑(List.length x0) : Int)) (gd (List.length d3.2.2.1 = List.length d3.2.2.1) (gd ((0 : Nat) = (0 : Nat)) (whileO (g5_l0 x0 d3) (((0 : Int), d3.2.1, d3.2.2.1, ([] : List Int), ()) : Int × List Int × List (List Int) × List Int × Unit)))) else gd ((0 : Nat) + List.length d3.2.2.1 ≤ List.length d3.2.2.1) (gd (preD2 (9 : Nat) (List.take (List.length d3.2.2.1) (List.drop (0 : Nat) d3.2.2.1))) (gd (ieq (detW (9 : Nat) (List.take (List.length d3.2.2.1) (List.drop (0 : Nat) d3.2.2.1))) (schF2 (List.take (12 : Nat) x0) (List.take (12 : Nat) x1)).1 = true → ieq (detW (9 : Nat) (List.take (List.length d3.2.2.1) (List.drop (0 : Nat) d3.2.2.1))) (schF2 (List.take (12 : Nat) x0) (List.take (12 : Nat) x1)).1 = true) (some (Lp.out (Lp.out ((bif ieq (detW (9 : Nat) (List.take (List.length d3.2.2.1) (List.drop (0 : Nat) d3.2.2.1))) (schF2 (List.take (12 : Nat) x0) (List.take (12 : Nat) x1)).1 then true else false, ()) : Bool × Unit))))))) (((0 : Int), d2.2.1, ([] : List (List Int)), ()) : Int × List Int × List (List Int) × Unit)))))))))))) (((1 : Int), (0 : Int) :: (0 : Int) :: (0 : Int) :: (0 : Int) :: (0 : Int) :: (0 : Int) :: (0 : Int) :: (0 : Int) :: (0 : Int) :: (0 : Int) :: (1 : Int) :: (0 : Int) :: (0 : Int) :: (0 : Int) :: (0 : Int) :: (0 : Int) :: (0 : Int) :: (0 : Int) :: (0 : Int) :: (0 : Int) :: ([] : List Int), ()) : Int × List Int × Unit))))))
noncomputable def g5_sh : List LSh := LSh.mk (((7, TV.ref (0) (1 : Nat) (0 : Nat) (0 : Nat)) : Nat × TV) :: ((8, TV.v (Ty.int IntKind.i64)) : Nat × TV) :: ([] : List (Nat × TV))) (TB.arr (Ty.int IntKind.i64) false :: ([] : List TB)) :: LSh.mk (((7, TV.ref (0) (1 : Nat) (0 : Nat) (0 : Nat)) : Nat × TV) :: ((11, TV.slf (1) (1)) : Nat × TV) :: ((75, TV.v (Ty.int IntKind.i64)) : Nat × TV) :: ([] : List (Nat × TV))) (TB.arr (Ty.int IntKind.i64) false :: TB.arr (Ty.slice (Ty.int IntKind.i64)) true :: ([] : List TB)) :: LSh.mk (((7, TV.ref (0) (1 : Nat) (0 : Nat) (0 : Nat)) : Nat × TV) :: ((11, TV.slf (1) (1)) : Nat × TV) :: ((14, TV.slf (2) (1)) : Nat × TV) :: ((82, TV.v (Ty.int IntKind.i64)) : Nat × TV) :: ([] : List (Nat × TV))) (TB.arr (Ty.int IntKind.i64) false :: TB.arr (Ty.slice (Ty.int IntKind.i64)) true :: TB.arr (Ty.int IntKind.i64) true :: ([] : List TB)) :: ([] : List LSh)

end Go.Schur

set_option linter.unusedVariables false
set_option linter.unusedSimpArgs false
namespace Go.Schur
open Go Go.Ab Go.Proofs

theorem cutC_len {j : Nat} {r : List Int} (h : j < r.length) : (cutC j r).length = r.length - 1 := by unfold cutC; simp; omega
theorem goal31 (k : Nat) : (con31 (k + 1)).goal Try.prog (spS [con39s, con31 k] []) g31_sh [] lm30 := by
  have e : (∀ (t : List (List Int)), preD2 (k + 1) t → g31 k t = some (detW (k + 1) t, ())) = (con31 (k + 1)).goal Try.prog (spS [con39s, con31 k] []) g31_sh [] lm30 := by kernel_rfl
  rw [← e]
  rintro t ⟨h1, h2, h3⟩
  unfold g31
  cases t with
  | nil => rfl
  | cons r0 rest =>
    simp only [List.length_cons] at h1 h2 h3
    have hr0 := h3 r0 (by simp)
    have hg0 : (r0 :: rest).getD 0 [] = r0 := rfl
    rw [ieq_false.2 (by simp only [List.length_cons]; omega), cond_false, hg0]
    rw [gd_pos (by simp only [List.length_cons]; omega)]
    show _ = some (dLoop (detW k) rest r0 0 1 0, ())
    have key : ∀ (c j : Nat) (s sg : Int), c + j = r0.length → whileO (fun (d2 : Int × Int × Int × Unit) => bif ilt d2.2.2.1 (↑(List.length r0) : Int) then gd ((0 : Int) ≤ d2.2.2.1 ∧ d2.2.2.1 < (↑(List.length r0) : Int)) (gd ((0 : Int) ≤ (1 : Int) ∧ (1 : Int) ≤ (↑(List.length (r0 :: rest)) : Int)) (gd ((0 : Nat) = (0 : Nat)) (whileO (g31_l0 k (r0 :: rest) d2) (((0 : Int), ([] : List (List Int)), ()) : Int × List (List Int) × Unit)))) else some (Lp.out ((d2.1, ()) : Int × Unit))) ((s, sg, ((j : Nat) : Int), ()) : Int × Int × Int × Unit) = some (dLoop (detW k) rest (r0.drop j) j sg s, ()) := by
      intro c
      induction c with
      | zero =>
        intro j s sg hj
        refine whileO_out ?_
        simp only [ilt_false.2 (show (r0.length : Int) ≤ (j : Int) by omega), cond_false]
        rw [List.drop_eq_nil_of_le (by omega)]; rfl
      | succ c ih =>
        intro j s sg hj
        have hlt : j < r0.length := by omega
        rw [List.drop_eq_getElem_cons hlt]
        refine (whileO_go (s' := ((wr .i64 (s + wr .i64 (wr .i64 (sg * r0[j]) * detW k (rest.map (cutC j)))), wr .i64 (0 - sg), ((j + 1 : Nat) : Int), ()) : Int × Int × Int × Unit)) ?_).trans (ih (j + 1) _ _ (by omega))
        simp only [ilt_iff.2 (show (j : Int) < (r0.length : Int) by omega), cond_true]
        rw [gd_pos ⟨by omega, by omega⟩, gd_pos ⟨by omega, by simp only [List.length_cons]; omega⟩, gd_true]
        have hw : wr .i64 ((j : Int) + 1) = (j + 1 : Nat) := (wr_id (by omega)).trans (by omega)
        have hgj : r0.getD j 0 = r0[j] := by rw [List.getD_eq_getElem?_getD, List.getElem?_eq_getElem hlt]; rfl
        have hd1 : List.drop 1 (r0 :: rest) = rest := rfl
        refine whileO_at (fun i => (((i : Nat) : Int), (rest.take i).map (cutC j), ())) rest.length _ rfl (fun i hi => ?_) ?_
        · unfold g31_l0
          have hri := h3 rest[i] (List.mem_cons_of_mem _ (List.getElem_mem hi))
          have hgi : rest.getD i [] = rest[i] := by rw [List.getD_eq_getElem?_getD, List.getElem?_eq_getElem hi]; rfl
          have hw2 : wr .i64 ((i : Int) + 1) = (i + 1 : Nat) := (wr_id (by omega)).trans (by omega)
          have htk : (rest[i].take j).length = j := by rw [List.length_take]; omega
          have hdl : (rest[i].drop (j + 1)).length = rest[i].length - (j + 1) := by simp
          have ht : List.take ((rest[i].take j).length + (rest[i].drop (j + 1)).length) (rest[i].take j ++ rest[i].drop (j + 1)) = cutC j rest[i] := by
            rw [← List.length_append, List.take_length]; rfl
          have hstep : (rest.take (i + 1)).map (cutC j) = (rest.take i).map (cutC j) ++ [cutC j rest[i]] := by rw [List.take_succ_eq_append_getElem hi, List.map_append]; rfl
          simp only [hd1, ilt_iff.2 (show (i : Int) < (rest.length : Int) by omega), cond_true, Int.toNat_natCast, hgi, hw, hw2, List.take_length, List.drop_zero, ht, hstep]
          rw [gd_pos ⟨by omega, by omega⟩, gd_pos ⟨by omega, by omega⟩, gd_pos (by omega), gd_pos ⟨by omega, by omega⟩]
          simp only [htk, hdl, Nat.zero_add, List.length_append, List.length_map, List.length_take, List.length_cons, List.length_nil, Nat.le_refl, gd_true]
          repeat rw [gd_pos (by omega)]
        · unfold g31_l0
          have hpre : preD2 k (rest.map (cutC j)) := by
            refine ⟨by simp; omega, by simp; omega, fun r hr => ?_⟩
            obtain ⟨r', hr', rfl⟩ := List.mem_map.1 hr
            have := h3 r' (List.mem_cons_of_mem _ hr')
            rw [cutC_len (by omega), List.length_map]; omega
          simp only [hd1, ilt_false.2 (Int.le_refl _), cond_false, Int.toNat_natCast, List.take_length, List.drop_zero, hg0, hgj, hw, gd_pos hpre, Nat.zero_add, Nat.le_refl, gd_true]
    exact key r0.length 0 0 1 (by omega)
set_option maxRecDepth 100000 in
theorem ok31 : ∀ k, (con31 k).Ok Try.prog
  | 0 => scon_false _ (by kernel_rfl) fun t p hp h => by
      cases hp
      have h : preD2 0 t := allP_one.1 h
      have h1 := h.1
      omega
  | k + 1 => SCon.of_goal mixed okN (okS ok39s (okS (ok31 k) okS0)) (con31 (k + 1)) (goal31 k)
end Go.Schur

set_option linter.unusedVariables false
set_option linter.unusedSimpArgs false
namespace Go.Schur
open Go Go.Ab Go.Proofs

abbrev Vec := List (List Nat × Int)
def evV (ys : List Int) (v : Vec) : Int := sL v fun a => a.2 * sR ys a.1
/-- The value behind an index. -/
def hZ (ys : List Int) (e : Int) : Int := if e < 0 then 0 else hR ys e.toNat
def deLoop (ys : List Int) (D : List (List Int) → Int) (rest : List (List Int)) : List Int → Nat → Int → Int
  | [], _, _ => 0
  | e :: es, j, sg => sg * hZ ys e * D (rest.map (cutC j)) + deLoop ys D rest es (j + 1) (-sg)
def detE (ys : List Int) : Nat → List (List Int) → Int
  | 0, _ => 0
  | k + 1, t => match t with
    | [] => 1
    | r0 :: rest => deLoop ys (detE ys k) rest r0 0 1
def addH (r : Nat) (sg : Int) (v : Vec) : Vec := v.flatMap fun a => (more (a.1.sum + r) a.1).map fun p => (p, sg * a.2)
def fitsH (r : Nat) (v : Vec) : Bool := v.all fun a => Nat.ble (a.1.sum + r) 8
def dvLoop (D : List (List Int) → Option Vec) (rest : List (List Int)) : List Int → Nat → Int → Option Vec
  | [], _, _ => some []
  | e :: es, j, sg => match decide (e < 0) with
    | true => dvLoop D rest es (j + 1) (-sg)
    | false => match D (rest.map (cutC j)) with
      | none => none
      | some v => match fitsH e.toNat v, dvLoop D rest es (j + 1) (-sg) with
        | true, some w => some (addH e.toNat sg v ++ w)
        | _, _ => none
def detV : Nat → List (List Int) → Option Vec
  | 0, _ => none
  | k + 1, t => match t with
    | [] => some [([], 1)]
    | r0 :: rest => dvLoop (detV k) rest r0 0 1
def okV (v : Vec) : Prop := ∀ a ∈ v, ∃ n, n ≤ 8 ∧ a.1 ∈ P n

theorem evV_app {ys : List Int} {v w : Vec} : evV ys (v ++ w) = evV ys v + evV ys w := sL_app
theorem addH_ok {ys : List Int} {r : Nat} {sg : Int} {v : Vec} (hv : okV v) (hf : fitsH r v = true) : okV (addH r sg v) ∧ evV ys (addH r sg v) = sg * hR ys r * evV ys v := by
  have hf : ∀ a ∈ v, a.1.sum + r ≤ 8 := fun a ha => Nat.le_of_ble_eq_true (List.all_eq_true.1 hf a ha)
  refine ⟨fun b hb => ?_, ?_⟩
  · obtain ⟨a, ha, hb⟩ := List.mem_flatMap.1 hb
    obtain ⟨p, hp, rfl⟩ := List.mem_map.1 hb
    exact ⟨a.1.sum + r, hf a ha, (List.mem_filter.1 hp).1⟩
  · unfold evV addH
    rw [sL_flat, ← sL_mul]
    refine sL_congr fun a ha => ?_
    obtain ⟨n, hn, hp⟩ := hv a ha
    have hs := sum_P hn hp
    have h8 := hf a ha
    rw [sL_map]
    have : (sL (more (a.1.sum + r) a.1) fun p => sg * a.2 * sR ys p) = sg * a.2 * (sR ys a.1 * hR ys r) := by
      rw [sL_mul, hs, pieri (by omega) hp]
    rw [this]
    simp only [Int.mul_assoc, Int.mul_comm, Int.mul_left_comm]
theorem detV_eq {ys : List Int} : ∀ {k : Nat} {t : List (List Int)} {v : Vec}, detV k t = some v → okV v ∧ detE ys k t = evV ys v
  | 0, t, v, h => by cases h
  | k + 1, t, v, h => by
    cases t with
    | nil =>
      cases h
      refine ⟨fun a ha => ⟨0, by omega, by rw [List.mem_singleton.1 ha]; decide⟩, ?_⟩
      have : sR ys [] = 1 := by
        clear detV_eq
        induction ys with
        | nil => rfl
        | cons y ys ih =>
          rw [sR]
          simp [subs, sL, ih, pw]
      simp [detE, evV, sL, this]
    | cons r0 rest =>
      have key : ∀ (es : List Int) (j : Nat) (sg : Int) (w : Vec), dvLoop (detV k) rest es j sg = some w → okV w ∧ deLoop ys (detE ys k) rest es j sg = evV ys w := by
        intro es
        induction es with
        | nil =>
          intro j sg w h
          cases h
          exact ⟨fun a ha => (nomatch ha), rfl⟩
        | cons e es ih =>
          intro j sg w h
          rw [dvLoop] at h
          rw [deLoop]
          by_cases he : e < 0
          · rw [decide_eq_true he] at h
            obtain ⟨h1, h2⟩ := ih _ _ _ h
            refine ⟨h1, ?_⟩
            rw [h2]; simp [hZ, he]
          · rw [decide_eq_false he] at h
            simp only at h
            cases hD : detV k (rest.map (cutC j)) with
            | none => rw [hD] at h; cases h
            | some v =>
              rw [hD] at h
              simp only at h
              obtain ⟨v1, v2⟩ := detV_eq hD
              cases hf : fitsH e.toNat v with
              | false => rw [hf] at h; cases h
              | true =>
                rw [hf] at h
                cases hw : dvLoop (detV k) rest es (j + 1) (-sg) with
                | none => rw [hw] at h; cases h
                | some u =>
                  rw [hw] at h
                  cases h
                  obtain ⟨u1, u2⟩ := ih _ _ _ hw
                  obtain ⟨a1, a2⟩ := addH_ok (ys := ys) (sg := sg) v1 hf
                  refine ⟨fun a ha => ?_, ?_⟩
                  · rcases List.mem_append.1 ha with h | h
                    · exact a1 a h
                    · exact u1 a h
                  · rw [evV_app, a2, u2, v2]
                    simp [hZ, he]
      exact key r0 0 1 v h

/-! The determinant of a shape. -/
def matI (p : List Nat) : List (List Int) := (List.range p.length).map fun (i : Nat) => (List.range p.length).map fun (j : Nat) => ((p.getD i 0 : Nat) : Int) - (i : Int) + (j : Int)
def coefV (v : Vec) (p : List Nat) : Int := (v.map fun a => cond (decide (a.1 = p)) a.2 0).sum
def jtOk (p : List Nat) : Bool := match detV 9 (matI p) with
  | some v => v.all (fun a => Nat.beq a.1.sum p.sum) && (P p.sum).all fun q => decide (coefV v q = cond (decide (q = p)) 1 0)
  | none => false
def jtC (p : List Nat) : Bool := Nat.ble p.length 4 && Nat.ble (p.headD 0 + p.length) 9
set_option maxRecDepth 100000 in
theorem jt_all : ∀ p ∈ allP, jtC p = true → jtOk p = true := by decide +kernel
theorem P_nodup : ∀ n ∈ List.range 9, (P n).Nodup := by decide +kernel
theorem jt {ys : List Int} {p : List Nat} (hp : p ∈ allP) (hc : jtC p = true) : detE ys 9 (matI p) = sR ys p := by
  have h := jt_all p hp hc
  obtain ⟨n, hn, hpn⟩ := allP_iff.1 hp
  have hs := sum_P hn hpn
  unfold jtOk at h
  cases hv : detV 9 (matI p) with
  | none => rw [hv] at h; cases h
  | some v =>
    rw [hv] at h
    simp only [Bool.and_eq_true] at h
    obtain ⟨h1, h2⟩ := h
    obtain ⟨v1, v2⟩ := detV_eq (ys := ys) hv
    have hnd := P_nodup n (List.mem_range.2 (by omega))
    have hin : ∀ a ∈ v, a.1 ∈ P n := fun a ha => by
      obtain ⟨m, hm, ham⟩ := v1 a ha
      have e1 := Nat.eq_of_beq_eq_true (List.all_eq_true.1 h1 a ha)
      have e2 := sum_P hm ham
      have : m = n := by omega
      rw [← this]; exact ham
    have e1 : evV ys v = sL (P n) fun q => coefV v q * sR ys q := by
      unfold evV
      have : (sL v fun a => a.2 * sR ys a.1) = sL v fun a => sL (P n) fun q => cond (decide (q = a.1)) (a.2 * sR ys q) 0 := sL_congr fun a ha => by
        rw [sL_single (g := fun q => a.2 * sR ys q) (p := fun q => decide (q = a.1)) hnd (hin a ha) (fun b _ => by simp)]
      rw [this, sL_comm]
      refine sL_congr fun q _ => ?_
      unfold coefV
      show _ = (sL v fun a => cond (decide (a.1 = q)) a.2 0) * _
      rw [← sL_mulr]
      refine sL_congr fun a _ => ?_
      by_cases hq : q = a.1
      · rw [decide_eq_true hq, decide_eq_true hq.symm]; rfl
      · rw [decide_eq_false hq, decide_eq_false (fun h => hq h.symm)]; simp
    rw [v2, e1]
    have e2 : (sL (P n) fun q => coefV v q * sR ys q) = sL (P n) fun q => cond (decide (q = p)) (sR ys q) 0 := sL_congr fun q hq => by
      have := of_decide_eq_true (List.all_eq_true.1 h2 q (by rw [hs]; exact hq))
      rw [this]
      cases decide (q = p) <;> simp
    rw [e2, sL_single hnd hpn (fun b _ => by simp)]
end Go.Schur

set_option linter.unusedVariables false
set_option linter.unusedSimpArgs false
namespace Go.Schur
open Go Go.Ab Go.Proofs

/-- The values that the law keeps. -/
def hW (x : List Int) (e : Int) : Int := if e < 0 then 0 else if e = 0 then 1 else schW [e] x
theorem sR_one {ys : List Int} : sR ys [] = 1 := by
  induction ys with
  | nil => rfl
  | cons y ys ih => rw [sR]; simp [subs, sL, ih, pw]
theorem hW_wr {x : List Int} {e : Int} : wr .i64 (hW x e) = wr .i64 (hZ x.reverse e) := by
  unfold hW hZ
  by_cases h : e < 0
  · rw [if_pos h, if_pos h]
  · rw [if_neg h, if_neg h]
    by_cases h0 : e = 0
    · rw [if_pos h0, h0]
      have : hR x.reverse (0 : Int).toNat = 1 := by
        show sR x.reverse [0] = 1
        have := sR_zero (ys := x.reverse) (l := [])
        rw [List.nil_append] at this
        rw [this, sR_one]
      rw [this]
    · rw [if_neg h0]
      unfold schW
      rw [wr_wr]; rfl
theorem cutC_map {f : Int → Int} {j : Nat} {r : List Int} : cutC j (r.map f) = (cutC j r).map f := by unfold cutC; simp [List.map_take, List.map_drop]
theorem detW_wr {x : List Int} : ∀ {k : Nat} {E : List (List Int)}, wr .i64 (detW k (E.map fun r => r.map (hW x))) = wr .i64 (detE x.reverse k E)
  | 0, E => rfl
  | k + 1, E => by
    cases E with
    | nil => rfl
    | cons r0 rest =>
      have key : ∀ (es : List Int) (j : Nat) (sg s : Int), (sg = 1 ∨ sg = -1) → wr .i64 (dLoop (detW k) (rest.map fun r => r.map (hW x)) (es.map (hW x)) j sg s) = wr .i64 (s + deLoop x.reverse (detE x.reverse k) rest es j sg) := by
        intro es
        induction es with
        | nil => intro j sg s _; show wr .i64 s = wr .i64 (s + 0); rw [Int.add_zero]
        | cons e es ih =>
          intro j sg s hsg
          rw [List.map_cons, dLoop, deLoop]
          have hs : wr .i64 (0 - sg) = -sg := by rcases hsg with rfl | rfl <;> decide
          rw [hs, ih _ _ _ (by omega), wr_add_l, ← Int.add_assoc]
          have hc : (rest.map fun r => r.map (hW x)).map (cutC j) = (rest.map (cutC j)).map fun r => r.map (hW x) := by
            rw [List.map_map, List.map_map]
            exact List.map_congr_left fun r _ => cutC_map
          rw [hc]
          have h1 : wr .i64 (wr .i64 (wr .i64 (sg * hW x e) * detW k ((rest.map (cutC j)).map fun r => r.map (hW x)))) = wr .i64 (sg * hZ x.reverse e * detE x.reverse k (rest.map (cutC j))) := by
            rw [wr_wr, wr_mul_l, ← wr_mul_r, detW_wr, wr_mul_r, ← wr_mul_l, ← wr_mul_r (a := sg), hW_wr, wr_mul_r, wr_mul_l]
          rw [← wr_add_l (a := s + _), ← wr_add_r (a := s), h1, wr_add_r, wr_add_l]
      have := key r0 0 1 0 (.inl rfl)
      rw [Int.zero_add] at this
      exact this
theorem detW_nf : ∀ {k : Nat} {t : List (List Int)}, wr .i64 (detW k t) = detW k t
  | 0, t => rfl
  | k + 1, t => by
    cases t with
    | nil => rfl
    | cons r0 rest =>
      have : ∀ (xs : List Int) (j : Nat) (sg s : Int), wr .i64 s = s → wr .i64 (dLoop (detW k) rest xs j sg s) = dLoop (detW k) rest xs j sg s := by
        intro xs
        induction xs with
        | nil => intro j sg s h; exact h
        | cons x xs ih => intro j sg s h; exact ih _ _ _ wr_wr
      exact this r0 0 1 0 rfl
theorem detW_jt {x : List Int} {p : List Nat} (hp : p ∈ allP) (hc : jtC p = true) : detW 9 ((matI p).map fun r => r.map (hW x)) = schW (toI p) x := by
  rw [← detW_nf, detW_wr, jt hp hc]
  unfold schW schN
  rw [toNat_toI]

theorem ext_getI {a b : List Int} (hl : a.length = b.length) (h : ∀ j, j < b.length → a.getD j 0 = b.getD j 0) : a = b := by
  refine List.ext_getElem hl fun j h1 h2 => ?_
  have := h j h2
  rw [List.getD_eq_getElem?_getD, List.getD_eq_getElem?_getD, List.getElem?_eq_getElem h1, List.getElem?_eq_getElem h2] at this
  exact this
def hA (x : List Int) (n : Nat) : List Int := (List.range 20).map fun i => if i < 10 then 0 else if i = 10 then 1 else if i < n + 10 then schW [((i - 10 : Nat) : Int)] x else 0
theorem hA_len {x : List Int} {n : Nat} : (hA x n).length = 20 := by simp [hA]
theorem hA_get {x : List Int} {n i : Nat} (h : i < 20) : (hA x n).getD i 0 = if i < 10 then 0 else if i = 10 then 1 else if i < n + 10 then schW [((i - 10 : Nat) : Int)] x else 0 := by
  unfold hA
  rw [List.getD_eq_getElem?_getD, List.getElem?_map, List.getElem?_range h]; rfl
theorem hA_W {x : List Int} {e : Int} (h1 : -10 ≤ e) (h2 : e ≤ 8) : (hA x 9).getD (e + 10).toNat 0 = hW x e := by
  rw [hA_get (by omega)]
  unfold hW
  by_cases h : e < 0
  · rw [if_pos (by omega), if_pos h]
  · rw [if_neg (by omega), if_neg h]
    by_cases h0 : e = 0
    · rw [if_pos (by omega), if_pos h0]
    · rw [if_neg (by omega), if_neg h0, if_pos (by omega)]
      congr 2
      omega
theorem hA_set {x : List Int} {k : Nat} (h1 : 1 ≤ k) (h2 : k ≤ 8) : (hA x k).set (k + 10) (schW [(k : Int)] x) = hA x (k + 1) := by
  refine ext_getI (by rw [List.length_set, hA_len, hA_len]) fun j hj => ?_
  rw [hA_len] at hj
  rw [hA_get hj, List.getD_eq_getElem?_getD, List.getElem?_set]
  by_cases he : k + 10 = j
  · subst he
    rw [if_pos rfl, if_pos (by rw [hA_len]; omega), if_neg (by omega), if_neg (by omega), if_pos (by omega)]
    simp
  · rw [if_neg he, ← List.getD_eq_getElem?_getD, hA_get hj]
    by_cases a : j < 10
    · rw [if_pos a, if_pos a]
    · rw [if_neg a, if_neg a]
      by_cases b : j = 10
      · rw [if_pos b, if_pos b]
      · rw [if_neg b, if_neg b]
        by_cases c : j < k + 10
        · rw [if_pos c, if_pos (by omega)]
        · rw [if_neg c, if_neg (by omega)]

theorem goal5 : con5.goal Try.prog (spS [con31 9] [con20, con28b, con22, con24]) g5_sh [] lm30 := by
  have e : (∀ (l x : List Int), (small l ∧ small x) → g5 l x = some (true, ())) = con5.goal Try.prog (spS [con31 9] [con20, con28b, con22, con24]) g5_sh [] lm30 := by kernel_rfl
  rw [← e]
  rintro l x ⟨hl, hx⟩
  unfold g5
  rw [gd_pos ⟨by simp; omega, by simp; omega⟩, schF2_take]
  by_cases hv : shapeB l = true ∧ okX x
  case neg =>
    have e1 : schF2 l x = (0, 2, ()) := if_neg hv
    rw [e1]
    simp [gd_true, ieq]
  case pos =>
    have e1 : schF2 l x = (schW l x, 0, ()) := if_pos hv
    obtain ⟨hs, hok⟩ := hv
    rw [e1, hs]
    have z0 : ieq (0 : Int) 0 = true := by decide
    simp only [z0, Bool.not_true, Bool.not_false, cond_false, imp_self, gd_true]
    rw [gd_pos (fun _ => ⟨trivial, hl⟩), gd_pos (by omega)]
    obtain ⟨p, hall, rfl, hp8, hp1, hps⟩ := shape_allP hs
    have hpl := hp8.len
    have lp : (toI p).length = p.length := by simp [toI]
    have h8 := hp8.le8
    have hdec := hp8.dec
    have h12 : (List.take 12 x).length ≤ 1000 := by simp; omega
    have hone : ∀ k : Nat, 1 ≤ k → k ≤ 8 → schF2 [(k : Int)] (List.take 12 x) = (schW [(k : Int)] x, 0, ()) := fun k h1 h2 => by
      have h3 := schF2_take (l := [(k : Int)]) (x := x)
      have h4 : List.take 12 [(k : Int)] = [(k : Int)] := rfl
      rw [h4] at h3
      have hsk : ∀ k ∈ List.range 9, 1 ≤ k → shapeB [(k : Int)] = true := by decide
      rw [h3]
      exact if_pos ⟨hsk k (List.mem_range.2 (by omega)) h1, hok⟩
    refine whileO_at (fun i => (((i + 1 : Nat) : Int), hA x (i + 1), ())) 8 _ rfl (fun i hi => ?_) ?_
    · have w1 : wr .i64 (((i + 1 : Nat) : Int) + 10) = ((i + 1 + 10 : Nat) : Int) := (wr_id (by omega)).trans (by omega)
      have w2 : wr .i64 (((i + 1 : Nat) : Int) + 1) = ((i + 1 + 1 : Nat) : Int) := (wr_id (by omega)).trans (by omega)
      have h1 := hone (i + 1) (by omega) (by omega)
      simp only [ile_iff.2 (show ((i + 1 : Nat) : Int) ≤ 8 by omega), cond_true, h1, z0, Bool.not_true, cond_false, w1, w2, Int.toNat_natCast, Nat.zero_add, Nat.mul_one, hA_len, hA_set (x := x) (show 1 ≤ i + 1 by omega) (by omega)]
      rw [gd_pos ⟨by omega, h12⟩, gd_pos ⟨by omega, by omega⟩, gd_pos (by omega)]
    · simp only [ile_false.2 (show (8 : Int) < ((8 + 1 : Nat) : Int) by omega), cond_false, lp]
      -- too long?
      have hA4 : ilt (4 : Int) (p.length : Int) = decide (4 < p.length) := by unfold ilt; congr 1; exact propext ⟨fun h => by omega, fun h => by omega⟩
      have hB0 : ilt (0 : Int) (p.length : Int) = decide (0 < p.length) := by unfold ilt; congr 1; exact propext ⟨fun h => by omega, fun h => by omega⟩
      have hg0 : (toI p).getD 0 0 = ((p.getD 0 0 : Nat) : Int) := toI_get
      have hp0 := h8 0
      have hw9 : wr .i64 (((p.getD 0 0 : Nat) : Int) + (p.length : Int)) = ((p.getD 0 0 + p.length : Nat) : Int) := (wr_id (by omega)).trans (by omega)
      have hC9 : ilt (9 : Int) ((p.getD 0 0 + p.length : Nat) : Int) = decide (9 < p.getD 0 0 + p.length) := by unfold ilt; congr 1; exact propext ⟨fun h => by omega, fun h => by omega⟩
      simp only [hA4, hB0, hg0, hw9, hC9]
      have main : p.length ≤ 4 → p.getD 0 0 + p.length ≤ 9 ∨ p.length = 0 → jtC p = true := fun h1 h2 => by
        have e0 : p.headD 0 = p.getD 0 0 := by cases p <;> rfl
        unfold jtC
        rw [e0, Bool.and_eq_true, Nat.ble_eq, Nat.ble_eq]
        refine ⟨h1, ?_⟩
        rcases h2 with h2 | h2
        · exact h2
        · rw [getD_out (by omega)]; omega
      have fin : jtC p = true → whileO (fun (d3 : Int × List Int × List (List Int) × Unit) => bif ilt d3.1 (↑p.length : Int) then gd ((0 : Int) ≤ d3.1 ∧ d3.1 < (↑p.length : Int)) (whileO (g5_l0 (toI p) d3) (((0 : Int), d3.2.1, d3.2.2.1, ([] : List Int), ()) : Int × List Int × List (List Int) × List Int × Unit)) else gd ((0 : Nat) + List.length d3.2.2.1 ≤ List.length d3.2.2.1) (gd (preD2 (9 : Nat) (List.take (List.length d3.2.2.1) (List.drop (0 : Nat) d3.2.2.1))) (some (Lp.out (Lp.out ((bif ieq (detW (9 : Nat) (List.take (List.length d3.2.2.1) (List.drop (0 : Nat) d3.2.2.1))) (schW (toI p) x) then true else false, ()) : Bool × Unit)))))) (((0 : Int), hA x 9, ([] : List (List Int)), ()) : Int × List Int × List (List Int) × Unit) = some (Lp.out ((true, ()) : Bool × Unit)) := by
        intro hc
        have hc2 := hc
        unfold jtC at hc2
        rw [Bool.and_eq_true, Nat.ble_eq, Nat.ble_eq, show p.headD 0 = p.getD 0 0 by cases p <;> rfl] at hc2
        have hmono : ∀ i, p.getD i 0 ≤ p.getD 0 0 := by
          intro i
          induction i with
          | zero => exact Nat.le_refl _
          | succ i ih => exact Nat.le_trans (hdec i) ih
        let rowE : Nat → Nat → Int := fun i j => ((p.getD i 0 : Nat) : Int) - (i : Int) + (j : Int)
        let rowW' : Nat → Nat → List Int := fun i n => (List.range n).map fun j => hW x (rowE i j)
        have hmat : ((matI p).map fun r => r.map (hW x)) = (List.range p.length).map fun i => rowW' i p.length := by
          unfold matI
          rw [List.map_map]
          refine List.map_congr_left fun i _ => ?_
          simp only [Function.comp, List.map_map]
          rfl
        have hrl : ∀ i n, (rowW' i n).length = n := fun i n => by simp [rowW']
        refine whileO_at (fun i => (((i : Nat) : Int), hA x 9, (List.range i).map (fun i => rowW' i p.length), ())) p.length _ rfl (fun i hi => ?_) ?_
        · have w1 : wr .i64 ((i : Int) + 1) = ((i + 1 : Nat) : Int) := (wr_id (by omega)).trans (by omega)
          simp only [ilt_iff.2 (show (i : Int) < (p.length : Int) by omega), cond_true]
          rw [gd_pos ⟨by omega, by omega⟩]
          have hgi : (toI p).getD i 0 = ((p.getD i 0 : Nat) : Int) := toI_get
          have hpi := h8 i
          have hpm := hmono i
          refine whileO_at (fun j => (((j : Nat) : Int), hA x 9, (List.range i).map (fun i => rowW' i p.length), rowW' i j, ())) p.length _ rfl (fun j hj => ?_) ?_
          · unfold g5_l0
            have a1 : wr .i64 (((p.getD i 0 : Nat) : Int) - (i : Int)) = ((p.getD i 0 : Nat) : Int) - (i : Int) := wr_id (by omega)
            have a2 : wr .i64 (((p.getD i 0 : Nat) : Int) - (i : Int) + (j : Int)) = rowE i j := wr_id (by omega)
            have hb1 : -10 ≤ rowE i j ∧ rowE i j ≤ 8 := by show -10 ≤ ((p.getD i 0 : Nat) : Int) - (i : Int) + (j : Int) ∧ ((p.getD i 0 : Nat) : Int) - (i : Int) + (j : Int) ≤ 8; omega
            have a3 : wr .i64 (rowE i j + 10) = rowE i j + 10 := wr_id (by omega)
            have a4 : wr .i64 ((j : Int) + 1) = ((j + 1 : Nat) : Int) := (wr_id (by omega)).trans (by omega)
            have hstep : rowW' i (j + 1) = rowW' i j ++ [hW x (rowE i j)] := by show (List.range (j + 1)).map _ = _; rw [List.range_succ, List.map_append]; rfl
            simp only [lp, ilt_iff.2 (show (j : Int) < (p.length : Int) by omega), cond_true, Int.toNat_natCast, hgi, a1, a2, a3, a4, Nat.zero_add, Nat.mul_one, hA_W hb1.1 hb1.2, hA_len, List.take_length, hstep, hrl]
            rw [gd_pos ⟨by omega, by omega⟩, gd_pos (by omega), gd_pos (Nat.le_refl _), gd_pos (by omega), gd_true, gd_pos (by simp [hrl])]
            rw [List.take_of_length_le (by rw [hrl]; exact Nat.le_refl _)]
          · unfold g5_l0
            have hstep : (List.range (i + 1)).map (fun i => rowW' i p.length) = (List.range i).map (fun i => rowW' i p.length) ++ [rowW' i p.length] := by rw [List.range_succ, List.map_append]; rfl
            simp only [lp, ilt_false.2 (Int.le_refl _), cond_false, Nat.zero_add, List.take_length, List.drop_zero, w1, hstep, Nat.le_refl, gd_true]
            rw [gd_pos (by simp; omega), gd_pos (by simp)]
        · have hdet : detW 9 ((List.range p.length).map fun i => rowW' i p.length) = schW (toI p) x := by rw [← hmat]; exact detW_jt hall hc
          have hpre : preD2 9 ((List.range p.length).map fun i => rowW' i p.length) := by
            refine ⟨by simp; omega, by simp; omega, fun r hr => ?_⟩
            obtain ⟨i, _, rfl⟩ := List.mem_map.1 hr
            rw [hrl]; simp
          have zz : ieq (schW (toI p) x) (schW (toI p) x) = true := ieq_iff.2 rfl
          simp only [ilt_false.2 (Int.le_refl _), cond_false, Nat.zero_add, List.take_length, List.drop_zero, hdet, gd_pos hpre, zz, imp_self, gd_true, Nat.le_refl, cond_true]
      by_cases h4 : 4 < p.length
      · rw [decide_eq_true h4]
        simp [gd_true]
      · rw [decide_eq_false h4]
        by_cases h0 : 0 < p.length
        · rw [decide_eq_true h0]
          by_cases h9 : 9 < p.getD 0 0 + p.length
          · rw [decide_eq_true h9]
            simp only [Bool.not_false, Bool.and_self, cond_true, cond_false, imp_self, and_self, gd_true, true_implies, true_and, and_true]
            rw [gd_pos (by omega)]
          · rw [decide_eq_false h9]
            simp only [Bool.not_false, Bool.and_self, cond_true, cond_false, imp_self, and_self, gd_true, true_implies, true_and, and_true]
            rw [gd_pos (by omega)]
            exact fin (main (by omega) (.inl (by omega)))
        · rw [decide_eq_false h0]
          simp only [Bool.not_false, Bool.and_self, Bool.and_false, Bool.false_eq_true, cond_true, cond_false, imp_self, and_self, gd_true, true_implies, false_implies, true_and, and_true]
          exact fin (main (by omega) (.inr (by omega)))
set_option maxRecDepth 100000 in
theorem ok5law : con5.Ok Try.prog := Con.of_goalS mixed (okC ok20 (okC ok28 (okC ok22 (okC ok24 okN)))) (okS (ok31 9) okS0) con5 goal5
end Go.Schur
