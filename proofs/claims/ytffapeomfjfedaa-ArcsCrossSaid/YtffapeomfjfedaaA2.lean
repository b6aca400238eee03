/- Contracts of the plane: the lowest multiple, the cross product, reading. -/
import Derived.Test.YtffapeomfjfedaaA1
set_option linter.unusedVariables false
set_option linter.unusedSimpArgs false
namespace Go.Arcs
open Go Go.Ab Go.Proofs

def inR (p : Int) (x : TripD) : Prop := (0 ≤ x.1 ∧ x.1 < p) ∧ (0 ≤ x.2.1 ∧ x.2.1 < p) ∧ (0 ≤ x.2.2.1 ∧ x.2.2.1 < p)
def notO (x : TripD) : Prop := ¬(x.1 = 0 ∧ x.2.1 = 0 ∧ x.2.2.1 = 0)
def firstF (x : TripD) : Int := if x.1 ≠ 0 then x.1 else if x.2.1 ≠ 0 then x.2.1 else x.2.2.1
noncomputable def lowF (p : Int) (x : TripD) : TripD := (x.1 * invF p (firstF x) % p, x.2.1 * invF p (firstF x) % p, x.2.2.1 * invF p (firstF x) % p, ())
noncomputable def conLow : Con := mkC 83 [.d (.ptr Plane), .d Trip] [Trip] (fun (k : PlaneD) (x : TripD) => [isP k.1, inR k.1 x, notO x]) (fun (k : PlaneD) (x : TripD) => (lowF k.1 x, ()))
noncomputable def g83 (x0 : Int × List (Int × Int × Int × Unit) × List ((Int × Int × Int × Unit) × Int) × Unit) (x1 : Int × Int × Int × Unit) : Option ((Int × Int × Int × Unit) × Unit) := gd ((3 : Nat) ≤ (3 : Nat)) (gd (small [x1.1, x1.2.1, x1.2.2.1]) (gd ((0 : Int) ≤ ixF [x1.1, x1.2.1, x1.2.2.1] ∧ ixF [x1.1, x1.2.1, x1.2.2.1] < (3 : Int)) (gd ((0 : Nat) + Int.toNat (ixF [x1.1, x1.2.1, x1.2.2.1]) * (1 : Nat) < (3 : Nat)) (gd (isP x0.1) (gd (rngP x0.1 (List.getD [x1.1, x1.2.1, x1.2.2.1] ((0 : Nat) + Int.toNat (ixF [x1.1, x1.2.1, x1.2.2.1]) * (1 : Nat)) (0 : Int))) (whileO (fun (d2 : Int × List Int × List Int × Unit) => bif ilt d2.1 (3 : Int) then gd ((0 : Int) ≤ d2.1 ∧ d2.1 < (3 : Int)) (gd ((0 : Nat) + Int.toNat d2.1 * (1 : Nat) < List.length d2.2.1) (gd (x0.1 ≠ (0 : Int)) (gd ((0 : Int) ≤ d2.1 ∧ d2.1 < (3 : Int)) (gd ((0 : Nat) + Int.toNat d2.1 * (1 : Nat) < List.length d2.2.1) (some (Lp.go ((wr IntKind.i64 (d2.1 + (1 : Int)), List.set d2.2.1 ((0 : Nat) + Int.toNat d2.1 * (1 : Nat)) (modF x0.1 (wr IntKind.i64 (List.getD d2.2.1 ((0 : Nat) + Int.toNat d2.1 * (1 : Nat)) (0 : Int) * invF x0.1 (List.getD [x1.1, x1.2.1, x1.2.2.1] ((0 : Nat) + Int.toNat (ixF [x1.1, x1.2.1, x1.2.2.1]) * (1 : Nat)) (0 : Int))))), d2.2.2.1, ()) : Int × List Int × List Int × Unit))))))) else gd ((3 : Nat) ≤ List.length d2.2.1) (gd ((3 : Nat) ≤ List.length d2.2.2.1) (gd ((3 : Nat) ≤ List.length (setMany d2.2.2.1 (0 : Nat) [List.getD d2.2.1 (0 : Nat) (0 : Int), List.getD d2.2.1 (1 : Nat) (0 : Int), List.getD d2.2.1 (2 : Nat) (0 : Int)])) (some (Lp.out ((((List.getD (setMany d2.2.2.1 (0 : Nat) [List.getD d2.2.1 (0 : Nat) (0 : Int), List.getD d2.2.1 (1 : Nat) (0 : Int), List.getD d2.2.1 (2 : Nat) (0 : Int)]) (0 : Nat) (0 : Int), List.getD (setMany d2.2.2.1 (0 : Nat) [List.getD d2.2.1 (0 : Nat) (0 : Int), List.getD d2.2.1 (1 : Nat) (0 : Int), List.getD d2.2.1 (2 : Nat) (0 : Int)]) (1 : Nat) (0 : Int), List.getD (setMany d2.2.2.1 (0 : Nat) [List.getD d2.2.1 (0 : Nat) (0 : Int), List.getD d2.2.1 (1 : Nat) (0 : Int), List.getD d2.2.1 (2 : Nat) (0 : Int)]) (2 : Nat) (0 : Int), ()) : Int × Int × Int × Unit), ()) : (Int × Int × Int × Unit) × Unit)))))) (((0 : Int), [x1.1, x1.2.1, x1.2.2.1], [(0 : Int), (0 : Int), (0 : Int)], ()) : Int × List Int × List Int × Unit)))))))
noncomputable def g83_sh : List LSh := [LSh.mk [((3, TV.ref (0) (1 : Nat) (0 : Nat) (0 : Nat)) : Nat × TV), ((4, TV.ref (1) (1 : Nat) (0 : Nat) (0 : Nat)) : Nat × TV), ((15, TV.v (Ty.int IntKind.i64)) : Nat × TV)] [TB.arr (Ty.int IntKind.i64) false, TB.arr (Ty.int IntKind.i64) false]]
def crossF (p : Int) (x y : TripD) : TripD := ((x.2.1 * y.2.2.1 - x.2.2.1 * y.2.1) % p, (x.2.2.1 * y.1 - x.1 * y.2.2.1) % p, (x.1 * y.2.1 - x.2.1 * y.1) % p, ())
noncomputable def conCross : Con := mkC 113 [.d (.ptr Plane), .d Trip, .d Trip] [Trip] (fun (k : PlaneD) (x y : TripD) => [isP k.1, inR k.1 x, inR k.1 y]) (fun (k : PlaneD) (x y : TripD) => (crossF k.1 x y, ()))
noncomputable def g113 (x0 : Int × List (Int × Int × Int × Unit) × List ((Int × Int × Int × Unit) × Int) × Unit) (x1 x2 : Int × Int × Int × Unit) : Option ((Int × Int × Int × Unit) × Unit) := gd ((1 : Nat) < (3 : Nat)) (gd ((2 : Nat) < (3 : Nat)) (gd ((2 : Nat) < (3 : Nat)) (gd ((1 : Nat) < (3 : Nat)) (gd (x0.1 ≠ (0 : Int)) (gd ((2 : Nat) < (3 : Nat)) (gd ((0 : Nat) < (3 : Nat)) (gd ((0 : Nat) < (3 : Nat)) (gd ((2 : Nat) < (3 : Nat)) (gd (x0.1 ≠ (0 : Int)) (gd ((0 : Nat) < (3 : Nat)) (gd ((1 : Nat) < (3 : Nat)) (gd ((1 : Nat) < (3 : Nat)) (gd ((0 : Nat) < (3 : Nat)) (gd (x0.1 ≠ (0 : Int)) (gd ((3 : Nat) ≤ (3 : Nat)) (gd ((3 : Nat) ≤ (3 : Nat)) (some ((((modF x0.1 (wr IntKind.i64 (wr IntKind.i64 (x1.2.1 * x2.2.2.1) - wr IntKind.i64 (x1.2.2.1 * x2.2.1))), modF x0.1 (wr IntKind.i64 (wr IntKind.i64 (x1.2.2.1 * x2.1) - wr IntKind.i64 (x1.1 * x2.2.2.1))), modF x0.1 (wr IntKind.i64 (wr IntKind.i64 (x1.1 * x2.2.1) - wr IntKind.i64 (x1.2.1 * x2.1))), ()) : Int × Int × Int × Unit), ()) : (Int × Int × Int × Unit) × Unit))))))))))))))))))
noncomputable def g113_sh : List LSh := []
def dotC (p : Int) (x y : TripD) : Int := (x.1 * y.1 + x.2.1 * y.2.1 + x.2.2.1 * y.2.2.1) % p
noncomputable def conDotC : Con := mkC 114 [.d (.ptr Plane), .d Trip, .d Trip] [I64] (fun (k : PlaneD) (x y : TripD) => [isP k.1, inR k.1 x, inR k.1 y]) (fun (k : PlaneD) (x y : TripD) => (dotC k.1 x y, ()))
def idxFrom (v : Int) : List Int → Int → Int
  | [], _ => -1
  | x :: l, i => if v = x then i else idxFrom v l (i + 1)
noncomputable def con80 : Con := mkC 80 [.d (.slice I64), .d I64] [I64] (fun (l : List Int) (v : Int) => [small l]) (fun (l : List Int) (v : Int) => (idxFrom v l 0, ()))
noncomputable def g80 (x0 : List Int) (x1 : Int) : Option (Int × Unit) := whileO (fun (d2 : Int × Unit) => bif ilt d2.1 (↑(List.length x0) : Int) then gd ((0 : Int) ≤ d2.1 ∧ d2.1 < (↑(List.length x0) : Int)) (bif ieq x1 (List.getD x0 (Int.toNat d2.1) (0 : Int)) then some (Lp.out ((d2.1, ()) : Int × Unit)) else some (Lp.go ((wr IntKind.i64 (d2.1 + (1 : Int)), ()) : Int × Unit))) else some (Lp.out (((-1 : Int), ()) : Int × Unit))) (((0 : Int), ()) : Int × Unit)
noncomputable def g80_sh : List LSh := [LSh.mk [((8, TV.v (Ty.int IntKind.i64)) : Nat × TV)] []]
noncomputable def con37 : Con := mkC 37 [.d (.slice I64), .d I64] [.bool] (fun (l : List Int) (v : Int) => [small l]) (fun (l : List Int) (v : Int) => (l.contains v, ()))
noncomputable def g37 (x0 : List Int) (x1 : Int) : Option (Bool × Unit) := gd (small x0) (some ((ile (0 : Int) (idxFrom x1 x0 (0 : Int)), ()) : Bool × Unit))
noncomputable def g37_sh : List LSh := []
noncomputable def outOf (k : Option PlaneD) (n : Int) : Bool := ilt n 0 || ile ((k.getD (0, [], [], ())).2.1.length : Int) n
noncomputable def con112 : Con := mkC 112 [.d I64, .d (.ptr (.optr Plane))] [.bool] (fun (n : Int) (k : Option PlaneD) => [k.isSome = true]) (fun (n : Int) (k : Option PlaneD) => (outOf k n, ()))
noncomputable def g112 (x0 : Int) (x1 : Option (Int × List (Int × Int × Int × Unit) × List ((Int × Int × Int × Unit) × Int) × Unit)) : Option (Bool × Unit) := gd ((!ilt x0 (0 : Int)) = true → (!ilt x0 (0 : Int)) = true ∧ Option.isSome x1 = true) (gd ((!ilt x0 (0 : Int)) = true → (!ilt x0 (0 : Int)) = true) (gd ((!ilt x0 (0 : Int)) = true → (!ilt x0 (0 : Int)) = true) (gd ((!ilt x0 (0 : Int)) = true → (!ilt x0 (0 : Int)) = true) (gd ((!ilt x0 (0 : Int)) = true → (!ilt x0 (0 : Int)) = true ∧ (!ilt x0 (0 : Int)) = true) (gd (ilt x0 (0 : Int) = false → (!ilt x0 (0 : Int)) = true) (some ((bif ilt x0 (0 : Int) then true else ile (↑(List.length (Option.getD x1 (((0 : Int), [], [], ()) : Int × List (Int × Int × Int × Unit) × List ((Int × Int × Int × Unit) × Int) × Unit)).2.1) : Int) x0, ()) : Bool × Unit)))))))
noncomputable def g112_sh : List LSh := []
def ixOf (q : Int → Bool) : List Int → Int → Int
  | [], _ => -1
  | x :: l, i => if q x = true then i else ixOf q l (i + 1)
noncomputable def con99b : Con := mkC 99 [.d (.slice I64), .fn 112 [.ptr (.optr Plane)]] [I64] (fun (l : List Int) (k : Option PlaneD) => [small l, k.isSome = true]) (fun (l : List Int) (k : Option PlaneD) => (ixOf (outOf k) l 0, ()))
noncomputable def g99b (x0 : List Int) (x1 : Option (Int × List (Int × Int × Int × Unit) × List ((Int × Int × Int × Unit) × Int) × Unit)) : Option (Int × Unit) := whileO (fun (d2 : Option (Int × List (Int × Int × Int × Unit) × List ((Int × Int × Int × Unit) × Int) × Unit) × Int × Unit) => bif ilt d2.2.1 (↑(List.length x0) : Int) then gd ((0 : Int) ≤ d2.2.1 ∧ d2.2.1 < (↑(List.length x0) : Int)) (gd (Option.isSome d2.1 = true) (bif outOf d2.1 (List.getD x0 (Int.toNat d2.2.1) (0 : Int)) then some (Lp.out ((d2.2.1, ()) : Int × Unit)) else some (Lp.go ((d2.1, wr IntKind.i64 (d2.2.1 + (1 : Int)), ()) : Option (Int × List (Int × Int × Int × Unit) × List ((Int × Int × Int × Unit) × Int) × Unit) × Int × Unit)))) else some (Lp.out (((-1 : Int), ()) : Int × Unit))) ((x1, (0 : Int), ()) : Option (Int × List (Int × Int × Int × Unit) × List ((Int × Int × Int × Unit) × Int) × Unit) × Int × Unit)
noncomputable def g99b_sh : List LSh := [LSh.mk [((1, TV.fn (112) (TV.cons (TV.v (Ty.ptr (Ty.optr (Ty.prod (Ty.int IntKind.i64) (Ty.prod (Ty.slice (Ty.prod (Ty.int IntKind.i64) (Ty.prod (Ty.int IntKind.i64) (Ty.prod (Ty.int IntKind.i64) Ty.unit)))) (Ty.prod (Ty.map (Ty.prod (Ty.int IntKind.i64) (Ty.prod (Ty.int IntKind.i64) (Ty.prod (Ty.int IntKind.i64) Ty.unit))) (Ty.int IntKind.i64)) Ty.unit)))))) TV.nil)) : Nat × TV), ((8, TV.v (Ty.int IntKind.i64)) : Nat × TV)] []]
noncomputable def con111 : Con := mkC 111 [.d (.slice I64), .fn 112 [.ptr (.optr Plane)]] [.bool] (fun (l : List Int) (k : Option PlaneD) => [small l, k.isSome = true]) (fun (l : List Int) (k : Option PlaneD) => (l.any (outOf k), ()))
noncomputable def g111 (x0 : List Int) (x1 : Option (Int × List (Int × Int × Int × Unit) × List ((Int × Int × Int × Unit) × Int) × Unit)) : Option (Bool × Unit) := gd (small x0) (gd (Option.isSome x1 = true) (some ((ile (0 : Int) (ixOf (outOf x1) x0 (0 : Int)), ()) : Bool × Unit)))
noncomputable def g111_sh : List LSh := []


theorem modF_eq {p n : Int} (hp : 0 < p ∧ p ≤ 1000) : modF p n = n % p := by
  have h1 := Int.lt_tmod_of_pos n hp.1
  have h2 := Int.tmod_lt_of_pos n hp.1
  unfold modF
  rw [wr_id (by omega), Int.tmod_eq_emod_of_nonneg (by omega), Int.add_emod_right, Int.tmod_def, Int.sub_mul_emod_self_left]

theorem goal113 : conCross.goal Try.prog (spOf [conMod]) g113_sh [] lm30 := by
  have e : (∀ (k : PlaneD) (x y : TripD), isP k.1 → inR k.1 x → inR k.1 y → g113 k x y = some (crossF k.1 x y, ())) = conCross.goal Try.prog (spOf [conMod]) g113_sh [] lm30 := by kernel_rfl
  rw [← e]
  intro k x y hp hx hy
  have hb := isP_bd hp
  obtain ⟨x1, x2, x3, _⟩ := x
  obtain ⟨y1, y2, y3, _⟩ := y
  obtain ⟨h1, h2, h3⟩ := hx
  obtain ⟨g1, g2, g3⟩ := hy
  simp only at h1 h2 h3 g1 g2 g3
  have b1 := mul_bd (c := 6) (a := x2) (b := y3) (by omega) (by omega)
  have b2 := mul_bd (c := 6) (a := x3) (b := y2) (by omega) (by omega)
  have b3 := mul_bd (c := 6) (a := x3) (b := y1) (by omega) (by omega)
  have b4 := mul_bd (c := 6) (a := x1) (b := y3) (by omega) (by omega)
  have b5 := mul_bd (c := 6) (a := x1) (b := y2) (by omega) (by omega)
  have b6 := mul_bd (c := 6) (a := x2) (b := y1) (by omega) (by omega)
  have hk : k.1 ≠ 0 := by omega
  simp (disch := omega) only [g113, gd_pos hk, gd_true, gd_pos, wr_id, modF_eq]
  rfl
set_option maxRecDepth 100000 in
theorem okCross : conCross.Ok Try.prog := Con.of_goal mixed (okC okMod okN) conCross goal113

theorem ixF3 {a b c : Int} : ixF [a, b, c] = if a ≠ 0 then 0 else if b ≠ 0 then 1 else if c ≠ 0 then 2 else -1 := by
  by_cases h1 : a = 0 <;> by_cases h2 : b = 0 <;> by_cases h3 : c = 0 <;> simp [ixF, ixFrom, nz, ieq, h1, h2, h3]

theorem goal83 : conLow.goal Try.prog (spOf [conMod, conInv, con99]) g83_sh [] lm30 := by
  have e : (∀ (k : PlaneD) (x : TripD), isP k.1 → inR k.1 x → notO x → g83 k x = some (lowF k.1 x, ())) = conLow.goal Try.prog (spOf [conMod, conInv, con99]) g83_sh [] lm30 := by kernel_rfl
  rw [← e]
  intro k x hp hx ho
  have hb := isP_bd hp
  obtain ⟨a, b, c, _⟩ := x
  obtain ⟨h1, h2, h3⟩ := hx
  simp only [notO] at h1 h2 h3 ho
  have hsm : small [a, b, c] := by simp [small]
  have hix : 0 ≤ ixF [a, b, c] ∧ ixF [a, b, c] < 3 := by rw [ixF3]; (repeat' split) <;> omega
  have hget : [a, b, c].getD (ixF [a, b, c]).toNat 0 = firstF (a, b, c, ()) := by
    rw [ixF3]
    simp only [firstF]
    by_cases q1 : a = 0 <;> by_cases q2 : b = 0 <;> by_cases q3 : c = 0 <;> simp [q1, q2, q3] <;> omega
  have hrng : rngP k.1 (firstF (a, b, c, ())) := by
    unfold rngP firstF
    simp only
    split
    · omega
    · split <;> omega
  have hinv := (inv_spec hp hrng)
  generalize hv : invF k.1 (firstF (a, b, c, ())) = v at *
  have b1 := mul_bd (c := 6) (a := a) (b := v) (by omega) (by omega)
  have b2 := mul_bd (c := 6) (a := b) (b := v) (by omega) (by omega)
  have b3 := mul_bd (c := 6) (a := c) (b := v) (by omega) (by omega)
  have hk : k.1 ≠ 0 := by omega
  unfold g83
  simp only [Nat.zero_add, Nat.mul_one, hget]
  rw [gd_pos (by omega), gd_pos hsm, gd_pos hix, gd_pos (by omega), gd_pos hp, gd_pos hrng]
  rw [hv]
  have w1 : wr .i64 1 = 1 := by decide
  have w2 : wr .i64 2 = 2 := by decide
  have w3 : wr .i64 3 = 3 := by decide
  rw [whileO_eq]; simp [ilt, gd_pos hk, gd_true, w1]
  rw [whileO_eq]; simp [ilt, gd_pos hk, gd_true, w2]
  rw [whileO_eq]; simp [ilt, gd_pos hk, gd_true, w3]
  rw [whileO_eq]; simp [ilt, gd_true, setMany]
  rw [wr_id (by omega), wr_id (by omega), wr_id (by omega), modF_eq (by omega), modF_eq (by omega), modF_eq (by omega)]
  simp only [lowF, hv]
set_option maxRecDepth 100000 in
theorem okLow : conLow.Ok Try.prog := Con.of_goal mixed (okC okMod (okC okInv (okC ok99 okN))) conLow goal83

theorem goal114c : conDotC.goal Try.prog (spOf [conMod]) g114_sh [] lm30 := by
  have e : (∀ (k : PlaneD) (x y : TripD), isP k.1 → inR k.1 x → inR k.1 y → g114 k x y = some (dotC k.1 x y, ())) = conDotC.goal Try.prog (spOf [conMod]) g114_sh [] lm30 := by kernel_rfl
  rw [← e]
  intro k x y hp hx hy
  have hb := isP_bd hp
  obtain ⟨x1, x2, x3, _⟩ := x
  obtain ⟨y1, y2, y3, _⟩ := y
  obtain ⟨h1, h2, h3⟩ := hx
  obtain ⟨g1, g2, g3⟩ := hy
  simp only at h1 h2 h3 g1 g2 g3
  have b1 := mul_bd (c := 6) (a := x1) (b := y1) (by omega) (by omega)
  have b2 := mul_bd (c := 6) (a := x2) (b := y2) (by omega) (by omega)
  have b3 := mul_bd (c := 6) (a := x3) (b := y3) (by omega) (by omega)
  have hk : k.1 ≠ 0 := by omega
  simp (disch := omega) only [g114, gd_pos hk, gd_true, gd_pos, wr_id, modF_eq]
  rfl
set_option maxRecDepth 100000 in
theorem okDotC : conDotC.Ok Try.prog := Con.of_goal mixed (okC okMod okN) conDotC goal114c

theorem goal80 : con80.goal Try.prog (spOf []) g80_sh [] lm30 := by
  have e : (∀ (l : List Int) (v : Int), small l → g80 l v = some (idxFrom v l 0, ())) = con80.goal Try.prog (spOf []) g80_sh [] lm30 := by kernel_rfl
  rw [← e]
  intro l v hs
  unfold small at hs
  unfold g80
  refine whileO_rec (fun (d : Int × Unit) => 0 ≤ d.1 ∧ d.1 ≤ l.length) (fun (d : Int × Unit) => l.length - d.1.toNat) (fun (d : Int × Unit) => (idxFrom v (l.drop d.1.toNat) d.1, ())) ?_ ((0 : Int), ()) ⟨by omega, by omega⟩
  rintro ⟨i, _⟩ ⟨h0, h1⟩
  simp only at h0 h1 ⊢
  by_cases hlt : i < l.length
  · have hn : i.toNat < l.length := by omega
    have ht : (i + 1).toNat = i.toNat + 1 := by omega
    rw [cond_t (ilt_iff.2 hlt), gd_pos ⟨h0, hlt⟩, getD_at hn, List.drop_eq_getElem_cons hn]
    by_cases hz : v = l[i.toNat]
    · left; rw [cond_t (ieq_iff.2 hz), idxFrom, if_pos hz]
    · right
      refine ⟨_, by rw [cond_f (ieq_false.2 hz), wr_id (by omega)], ⟨by simp only; omega, by simp only; omega⟩, by simp only; omega, ?_⟩
      rw [idxFrom, if_neg hz]
      simp only [ht]
  · left
    have : i.toNat = l.length := by omega
    rw [cond_f (ilt_false.2 (by omega)), this, List.drop_length]
    rfl
set_option maxRecDepth 100000 in
theorem ok80 : con80.Ok Try.prog := Con.of_goal mixed okN con80 goal80

theorem idx_contains {v : Int} : ∀ {l : List Int} {i : Int}, 0 ≤ i → ile 0 (idxFrom v l i) = l.contains v
  | [], i, h => rfl
  | x :: l, i, h => by
    rw [idxFrom, List.contains_cons]
    by_cases hx : v = x
    · subst hx
      simp [ile, h]
    · rw [if_neg hx, idx_contains (by omega)]
      have : (v == x) = false := by simp [hx]
      rw [this, Bool.false_or]

theorem goal37 : con37.goal Try.prog (spOf [con80]) g37_sh [] lm30 := by
  have e : (∀ (l : List Int) (v : Int), small l → g37 l v = some (l.contains v, ())) = con37.goal Try.prog (spOf [con80]) g37_sh [] lm30 := by kernel_rfl
  rw [← e]
  intro l v hs
  rw [g37, gd_pos hs, idx_contains (by omega)]
set_option maxRecDepth 100000 in
theorem ok37 : con37.Ok Try.prog := Con.of_goal mixed (okC ok80 okN) con37 goal37

theorem goal112 : con112.goal Try.prog (spOf []) g112_sh [] lm30 := by
  have e : (∀ (n : Int) (k : Option PlaneD), k.isSome = true → g112 n k = some (outOf k n, ())) = con112.goal Try.prog (spOf []) g112_sh [] lm30 := by kernel_rfl
  rw [← e]
  intro n k h
  unfold g112
  rw [gd_pos (fun h' => ⟨h', h⟩), gd_pos (fun h' => h'), gd_pos (fun h' => h'), gd_pos (fun h' => h'), gd_pos (fun h' => ⟨h', h'⟩), gd_pos (fun h' => by rw [h']; rfl)]
  simp only [outOf]
  cases ilt n 0 <;> rfl
set_option maxRecDepth 100000 in
theorem ok112 : con112.Ok Try.prog := Con.of_goal mixed okN con112 goal112

theorem goal99b : con99b.goal Try.prog (spOf [con112]) g99b_sh [] lm30 := by
  have e : (∀ (l : List Int) (k : Option PlaneD), small l → k.isSome = true → g99b l k = some (ixOf (outOf k) l 0, ())) = con99b.goal Try.prog (spOf [con112]) g99b_sh [] lm30 := by kernel_rfl
  rw [← e]
  intro l k hs hk
  unfold small at hs
  unfold g99b
  refine whileO_rec (fun (d : Option PlaneD × Int × Unit) => d.1 = k ∧ 0 ≤ d.2.1 ∧ d.2.1 ≤ l.length) (fun (d : Option PlaneD × Int × Unit) => l.length - d.2.1.toNat) (fun (d : Option PlaneD × Int × Unit) => (ixOf (outOf k) (l.drop d.2.1.toNat) d.2.1, ())) ?_ (k, (0 : Int), ()) ⟨rfl, by simp only; omega, by simp only; omega⟩
  rintro ⟨k', i, _⟩ ⟨hkk, h0, h1⟩
  simp only at hkk h0 h1 ⊢
  subst hkk
  by_cases hlt : i < l.length
  · have hn : i.toNat < l.length := by omega
    have ht : (i + 1).toNat = i.toNat + 1 := by omega
    rw [cond_t (ilt_iff.2 hlt), gd_pos ⟨h0, hlt⟩, gd_pos hk, getD_at hn, List.drop_eq_getElem_cons hn]
    by_cases hz : outOf k' l[i.toNat] = true
    · left; rw [cond_t hz, ixOf, if_pos hz]
    · right
      have hz' : outOf k' l[i.toNat] = false := by simpa using hz
      refine ⟨_, by rw [cond_f hz', wr_id (by omega)], ⟨rfl, by simp only; omega, by simp only; omega⟩, by simp only; omega, ?_⟩
      rw [ixOf, if_neg hz]
      simp only [ht]
  · left
    have : i.toNat = l.length := by omega
    rw [cond_f (ilt_false.2 (by omega)), this, List.drop_length]
    rfl
set_option maxRecDepth 100000 in
theorem ok99b : con99b.Ok Try.prog := Con.of_goal mixed (okC ok112 okN) con99b goal99b

theorem ixOf_any {q : Int → Bool} : ∀ {l : List Int} {i : Int}, 0 ≤ i → ile 0 (ixOf q l i) = l.any q
  | [], i, h => rfl
  | x :: l, i, h => by
    rw [ixOf, List.any_cons]
    by_cases hx : q x = true
    · rw [if_pos hx, hx]
      simp [ile, h]
    · rw [if_neg hx, ixOf_any (by omega)]
      have : q x = false := by simpa using hx
      rw [this, Bool.false_or]

theorem goal111 : con111.goal Try.prog (spOf [con99b]) g111_sh [] lm30 := by
  have e : (∀ (l : List Int) (k : Option PlaneD), small l → k.isSome = true → g111 l k = some (l.any (outOf k), ())) = con111.goal Try.prog (spOf [con99b]) g111_sh [] lm30 := by kernel_rfl
  rw [← e]
  intro l k hs hk
  rw [g111, gd_pos hs, gd_pos hk, ixOf_any (by omega)]
set_option maxRecDepth 100000 in
theorem ok111 : con111.Ok Try.prog := Con.of_goal mixed (okC ok99b okN) con111 goal111

end Go.Arcs
