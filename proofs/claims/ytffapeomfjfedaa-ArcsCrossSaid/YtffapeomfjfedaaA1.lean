/- Contracts of the plane's arithmetic. -/
import Derived.Test.YtffapeomfjfedaaProg
import Derived.Test.YtffapeomfjfedaaAb32
set_option linter.unusedVariables false
set_option linter.unusedSimpArgs false
namespace Go.Arcs
open Go Go.Ab Go.Proofs

abbrev I64 : Ty := .int .i64
abbrev Trip : Ty := .prod I64 (.prod I64 (.prod I64 .unit))
abbrev Plane : Ty := .prod I64 (.prod (.slice Trip) (.prod (.map Trip I64) .unit))
abbrev TripD := Int × Int × Int × Unit
abbrev PlaneD := Int × List TripD × List (TripD × Int) × Unit

/-! ### mod -/
noncomputable def modF (p n : Int) : Int := Int.tmod (wr .i64 (n.tmod p + p)) p
noncomputable def conMod : Con := mkC 73 [.d (.ptr Plane), .d I64] [I64] (fun (k : PlaneD) (n : Int) => [k.1 ≠ 0]) (fun (k : PlaneD) (n : Int) => (modF k.1 n, ()))
noncomputable def g73 (x0 : Int × List (Int × Int × Int × Unit) × List ((Int × Int × Int × Unit) × Int) × Unit) (x1 : Int) : Option (Int × Unit) := gd (x0.1 ≠ (0 : Int)) (gd (x0.1 ≠ (0 : Int)) (some ((Int.tmod (wr IntKind.i64 (Int.tmod x1 x0.1 + x0.1)) x0.1, ()) : Int × Unit)))
noncomputable def g73_sh : List LSh := []
noncomputable def dotF (p : Int) (x y : TripD) : Int := modF p (wr .i64 (wr .i64 (wr .i64 (x.1 * y.1) + wr .i64 (x.2.1 * y.2.1)) + wr .i64 (x.2.2.1 * y.2.2.1)))
noncomputable def conDot : Con := mkC 114 [.d (.ptr Plane), .d Trip, .d Trip] [I64] (fun (k : PlaneD) (x y : TripD) => [k.1 ≠ 0]) (fun (k : PlaneD) (x y : TripD) => (dotF k.1 x y, ()))
noncomputable def g114 (x0 : Int × List (Int × Int × Int × Unit) × List ((Int × Int × Int × Unit) × Int) × Unit) (x1 x2 : Int × Int × Int × Unit) : Option (Int × Unit) := gd ((0 : Nat) < (3 : Nat)) (gd ((0 : Nat) < (3 : Nat)) (gd ((1 : Nat) < (3 : Nat)) (gd ((1 : Nat) < (3 : Nat)) (gd ((2 : Nat) < (3 : Nat)) (gd ((2 : Nat) < (3 : Nat)) (gd (x0.1 ≠ (0 : Int)) (some ((modF x0.1 (wr IntKind.i64 (wr IntKind.i64 (wr IntKind.i64 (x1.1 * x2.1) + wr IntKind.i64 (x1.2.1 * x2.2.1)) + wr IntKind.i64 (x1.2.2.1 * x2.2.2.1))), ()) : Int × Unit))))))))
noncomputable def g114_sh : List LSh := []
noncomputable def nz (n : Int) : Bool := !ieq n 0
noncomputable def con117 : Con := mkC 117 [.d I64] [.bool] (fun (_ : Int) => []) (fun (n : Int) => (nz n, ()))
noncomputable def g117 (x0 : Int) : Option (Bool × Unit) := some ((!ieq x0 (0 : Int), ()) : Bool × Unit)
noncomputable def g117_sh : List LSh := []
noncomputable def ixFrom : List Int → Int → Int
  | [], _ => -1
  | x :: l, i => if nz x = true then i else ixFrom l (i + 1)
noncomputable def ixF (l : List Int) : Int := ixFrom l 0
def small {α : Type} (l : List α) : Prop := (l.length : Int) < 4611686018427387904
noncomputable def con99 : Con := mkC 99 [.d (.slice I64), .fn 117 []] [I64] (fun (l : List Int) => [small l]) (fun (l : List Int) => (ixF l, ()))
noncomputable def g99 (x0 : List Int) : Option (Int × Unit) := whileO (fun (d1 : Int × Unit) => bif ilt d1.1 (↑(List.length x0) : Int) then gd ((0 : Int) ≤ d1.1 ∧ d1.1 < (↑(List.length x0) : Int)) (bif nz (List.getD x0 (Int.toNat d1.1) (0 : Int)) then some (Lp.out ((d1.1, ()) : Int × Unit)) else some (Lp.go ((wr IntKind.i64 (d1.1 + (1 : Int)), ()) : Int × Unit))) else some (Lp.out (((-1 : Int), ()) : Int × Unit))) (((0 : Int), ()) : Int × Unit)
noncomputable def g99_sh : List LSh := [LSh.mk [((1, TV.fn (117) TV.nil) : Nat × TV), ((8, TV.v (Ty.int IntKind.i64)) : Nat × TV)] []]
def isP (p : Int) : Prop := p = 2 ∨ p = 3 ∨ p = 5 ∨ p = 7
def rngP (p n : Int) : Prop := 0 < n ∧ n < p
noncomputable def invF (p n : Int) : Int := (([1,2,3,4,5,6] : List Int).find? fun x => (x * n) % p == 1).getD 0
noncomputable def conInv : Con := mkC 74 [.d (.ptr Plane), .d I64] [I64] (fun (k : PlaneD) (n : Int) => [isP k.1, rngP k.1 n]) (fun (k : PlaneD) (n : Int) => (invF k.1 n, ()))
noncomputable def g74 (x0 : Int × List (Int × Int × Int × Unit) × List ((Int × Int × Int × Unit) × Int) × Unit) (x1 : Int) : Option (Int × Unit) := whileO (fun (d2 : Int × Unit) => gd (x0.1 ≠ (0 : Int)) (bif !ieq (modF x0.1 (wr IntKind.i64 (d2.1 * x1))) (1 : Int) then some (Lp.go ((wr IntKind.i64 (d2.1 + (1 : Int)), ()) : Int × Unit)) else some (Lp.out ((d2.1, ()) : Int × Unit)))) (((1 : Int), ()) : Int × Unit)
noncomputable def g74_sh : List LSh := [LSh.mk [((5, TV.v (Ty.int IntKind.i64)) : Nat × TV)] []]


theorem mixed : Try.prog.follows .mixedOrders = true := by kernel_rfl

theorem goal73 : conMod.goal Try.prog (spOf []) g73_sh [] lm30 := by
  have e : (∀ (k : PlaneD) (n : Int), k.1 ≠ 0 → g73 k n = some (modF k.1 n, ())) = conMod.goal Try.prog (spOf []) g73_sh [] lm30 := by kernel_rfl
  rw [← e]
  intro k n h
  simp only [g73, gd_pos h, modF]
set_option maxRecDepth 100000 in
theorem okMod : conMod.Ok Try.prog := Con.of_goal mixed okN conMod goal73

theorem goal114 : conDot.goal Try.prog (spOf [conMod]) g114_sh [] lm30 := by
  have e : (∀ (k : PlaneD) (x y : TripD), k.1 ≠ 0 → g114 k x y = some (dotF k.1 x y, ())) = conDot.goal Try.prog (spOf [conMod]) g114_sh [] lm30 := by kernel_rfl
  rw [← e]
  intro k x y h
  simp (disch := omega) only [g114, gd_pos h, gd_pos, dotF]
set_option maxRecDepth 100000 in
theorem okDot : conDot.Ok Try.prog := Con.of_goal mixed (okC okMod okN) conDot goal114
theorem goal117 : con117.goal Try.prog (spOf []) g117_sh [] lm30 := by
  have e : (∀ n : Int, g117 n = some (nz n, ())) = con117.goal Try.prog (spOf []) g117_sh [] lm30 := by kernel_rfl
  rw [← e]
  exact fun n => rfl
set_option maxRecDepth 100000 in
theorem ok117 : con117.Ok Try.prog := Con.of_goal mixed okN con117 goal117

theorem goal99 : con99.goal Try.prog (spOf [con117]) g99_sh [] lm30 := by
  have e : (∀ l : List Int, small l → g99 l = some (ixF l, ())) = con99.goal Try.prog (spOf [con117]) g99_sh [] lm30 := by kernel_rfl
  rw [← e]
  intro l hs
  unfold small at hs
  unfold g99
  refine whileO_rec (fun (d : Int × Unit) => 0 ≤ d.1 ∧ d.1 ≤ l.length) (fun (d : Int × Unit) => l.length - d.1.toNat) (fun (d : Int × Unit) => (ixFrom (l.drop d.1.toNat) d.1, ())) ?_ ((0 : Int), ()) ⟨by omega, by omega⟩
  rintro ⟨i, _⟩ ⟨h0, h1⟩
  simp only at h0 h1 ⊢
  by_cases hlt : i < l.length
  · have hn : i.toNat < l.length := by omega
    have ht : (i + 1).toNat = i.toNat + 1 := by omega
    rw [cond_t (ilt_iff.2 hlt), gd_pos ⟨h0, hlt⟩, getD_at hn, List.drop_eq_getElem_cons hn]
    by_cases hz : nz l[i.toNat] = true
    · left; rw [cond_t hz, ixFrom, if_pos hz]
    · right
      have hz' : nz l[i.toNat] = false := by simpa using hz
      refine ⟨_, by rw [cond_f hz', wr_id (by omega)], ⟨by simp only; omega, by simp only; omega⟩, by simp only; omega, ?_⟩
      rw [ixFrom, if_neg hz]
      simp only [ht]
  · left
    have : i.toNat = l.length := by omega
    rw [cond_f (ilt_false.2 (by omega)), this, List.drop_length]
    rfl
set_option maxRecDepth 100000 in
theorem ok99 : con99.Ok Try.prog := Con.of_goal mixed (okC ok117 okN) con99 goal99

theorem inv_all : ∀ p ∈ ([2,3,5,7] : List Int), ∀ n ∈ ([1,2,3,4,5,6] : List Int), n < p → 1 ≤ invF p n ∧ invF p n ≤ 6 ∧ ∀ x ∈ ([1,2,3,4,5,6] : List Int), x ≤ invF p n → ieq (modF p (wr .i64 (x * n))) 1 = ieq x (invF p n) := by decide

theorem isP_mem {p : Int} (h : isP p) : p ∈ ([2,3,5,7] : List Int) := by
  rcases h with rfl | rfl | rfl | rfl <;> decide
theorem six_mem {n : Int} (h : 1 ≤ n ∧ n ≤ 6) : n ∈ ([1,2,3,4,5,6] : List Int) := by
  have : n = 1 ∨ n = 2 ∨ n = 3 ∨ n = 4 ∨ n = 5 ∨ n = 6 := by omega
  rcases this with rfl | rfl | rfl | rfl | rfl | rfl <;> decide
theorem isP_bd {p : Int} (h : isP p) : 2 ≤ p ∧ p ≤ 7 := by rcases h with rfl | rfl | rfl | rfl <;> decide

theorem inv_spec {p n : Int} (hp : isP p) (hn : rngP p n) : 1 ≤ invF p n ∧ invF p n ≤ 6 ∧ ∀ x, 1 ≤ x → x ≤ invF p n → ieq (modF p (wr .i64 (x * n))) 1 = ieq x (invF p n) := by
  have h7 := (isP_bd hp).2
  obtain ⟨h1, h2⟩ := hn
  obtain ⟨g1, g2, g3⟩ := inv_all p (isP_mem hp) n (six_mem ⟨by omega, by omega⟩) h2
  exact ⟨g1, g2, fun x hx1 hx2 => g3 x (six_mem ⟨hx1, by omega⟩) hx2⟩

theorem goal74 : conInv.goal Try.prog (spOf [conMod]) g74_sh [] lm30 := by
  have e : (∀ (k : PlaneD) (n : Int), isP k.1 → rngP k.1 n → g74 k n = some (invF k.1 n, ())) = conInv.goal Try.prog (spOf [conMod]) g74_sh [] lm30 := by kernel_rfl
  rw [← e]
  intro k n hp hn
  obtain ⟨g1, g2, g3⟩ := inv_spec hp hn
  have h2 := isP_bd hp
  unfold g74
  refine whileO_rec (fun (d : Int × Unit) => 1 ≤ d.1 ∧ d.1 ≤ invF k.1 n) (fun (d : Int × Unit) => (invF k.1 n - d.1).toNat) (fun (d : Int × Unit) => (invF k.1 n, ())) ?_ ((1 : Int), ()) ⟨by omega, by simp only; omega⟩
  rintro ⟨i, _⟩ ⟨h0, h1⟩
  simp only at h0 h1 ⊢
  rw [gd_pos (by omega), g3 i h0 h1]
  by_cases he : i = invF k.1 n
  · left
    rw [cond_f (by simp [ieq, he]), he]
  · right
    refine ⟨_, by rw [cond_t (by simp [ieq, he]), wr_id (by omega)], ⟨by simp only; omega, by simp only; omega⟩, by simp only; omega, by trivial⟩
set_option maxRecDepth 100000 in
theorem okInv : conInv.Ok Try.prog := Con.of_goal mixed (okC okMod okN) conInv goal74

end Go.Arcs
