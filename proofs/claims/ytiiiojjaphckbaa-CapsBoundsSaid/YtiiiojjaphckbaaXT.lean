/- The law Most: contracts. -/
import Derived.Test.YtiiiojjaphckbaaXR
set_option linter.unusedVariables false
set_option linter.unusedSimpArgs false
namespace Go.Caps
open Go Go.Ab Go.Proofs

/-! Greatest: caps. -/
def mayD (d : Int) (l : List Int) (x : Int) : Bool := (freeF d l).contains x
def dkOk (k : DeckD) : Prop := isD k.1 = true ∧ k.2.1 = sizeF k.1
def cdOk (d : Int) (l : List Int) : Prop := (∀ x ∈ l, inC (sizeF d) x = true) ∧ l.length ≤ 81
noncomputable def con83 : Con := mkC 83 [.d Deck, .d LI, .d I64] [.bool] (fun (k : DeckD) (l : List Int) (x : Int) => [dkOk k, cdOk k.1 l]) (fun (k : DeckD) (l : List Int) (x : Int) => (mayD k.1 l x, ()))
noncomputable def g83 (x0 : Int × Int × Unit) (x1 : List Int) (x2 : Int) : Option (Bool × Unit) := gd ((2 : Nat) ≤ (2 : Nat)) (gd (isD x0.1 = true) (gd (x0.2.1 = sizeF x0.1) (gd (∀ (x3 : Int), List.Mem x3 x1 → inC (sizeF x0.1) x3 = true) (gd (List.length x1 ≤ (81 : Nat)) (gd (small (freeF x0.1 x1)) (some ((List.contains (freeF x0.1 x1) x2, ()) : Bool × Unit)))))))
noncomputable def g83_sh : List LSh := ([] : List LSh)
abbrev F83 : TV := .fn 4179 (.cons (.v Deck) .nil)
abbrev I99d : List TB := [.cells [.sl 5 1 0], .cells [.v I64], .cells [.v I64], .cells [F83], .cells [Gr99], .arr I64 true]
abbrev O99d : List TB := [.cells [.sl 6 1 0], .cells [.v I64], .cells [.v I64], .cells [F83], .cells [Gr99], .dead, .arr I64 true]
def dOk (n : Int) (k : DeckD) : Prop := dkOk k ∧ n = sizeF k.1
noncomputable def con99d (f : Nat) : SCon := mkS 99 A99 I99d [.v .bool] O99d (fun (frm len size n : Int) (k : DeckD) (a : List Int) => [pre99 f frm len n size a, dOk n k]) (fun (frm len size n : Int) (k : DeckD) (a : List Int) => ((growF (mayD k.1) n size f frm len a).1, (growF (mayD k.1) n size f frm len a).2.1, size, n, k, (growF (mayD k.1) n size f frm len a).2.2.1, ()))
noncomputable def g99d (f : Nat) (x0 x1 x2 x3 : Int) (x4 : Int × Int × Unit) (x5 : List Int) : Option (Bool × Int × Int × Int × (Int × Int × Unit) × List Int × Unit) := bif ieq (↑(Int.toNat x1) : Int) x2 then some ((true, (↑(Int.toNat x1) : Int), x2, x3, x4, x5, ()) : Bool × Int × Int × Int × (Int × Int × Unit) × List Int × Unit) else whileO (fun (d7 : Int × Int × Int × Int × (Int × Int × Unit) × List Int × Unit) => bif ile d7.1 (wr IntKind.i64 (d7.2.2.2.1 - wr IntKind.i64 (d7.2.2.1 - (↑(Int.toNat d7.2.1) : Int)))) then gd ((0 : Nat) + Int.toNat d7.2.1 ≤ List.length d7.2.2.2.2.2.1) (gd (dkOk d7.2.2.2.2.1) (gd (cdOk d7.2.2.2.2.1.1 (List.take (Int.toNat d7.2.1) (List.drop (0 : Nat) d7.2.2.2.2.2.1))) (bif mayD d7.2.2.2.2.1.1 (List.take (Int.toNat d7.2.1) (List.drop (0 : Nat) d7.2.2.2.2.2.1)) d7.1 then gd (Int.toNat d7.2.1 ≤ List.length d7.2.2.2.2.2.1) (gd ((Int.toNat d7.2.1 + (1 : Nat)) * (8 : Nat) ≤ (1099511627776 : Nat)) (gd (pre99 f (wr IntKind.i64 (d7.1 + (1 : Int))) (↑(Int.toNat d7.2.1 + (1 : Nat)) : Int) d7.2.2.2.1 d7.2.2.1 (List.take (Int.toNat d7.2.1) d7.2.2.2.2.2.1 ++ d7.1 :: ([] : List Int))) (gd (dOk d7.2.2.2.1 d7.2.2.2.2.1) (bif (growF (mayD d7.2.2.2.2.1.1) d7.2.2.2.1 d7.2.2.1 f (wr IntKind.i64 (d7.1 + (1 : Int))) (↑(Int.toNat d7.2.1 + (1 : Nat)) : Int) (List.take (Int.toNat d7.2.1) d7.2.2.2.2.2.1 ++ d7.1 :: ([] : List Int))).1 then some (Lp.out ((true, (↑(Int.toNat (growF (mayD d7.2.2.2.2.1.1) d7.2.2.2.1 d7.2.2.1 f (wr IntKind.i64 (d7.1 + (1 : Int))) (↑(Int.toNat d7.2.1 + (1 : Nat)) : Int) (List.take (Int.toNat d7.2.1) d7.2.2.2.2.2.1 ++ d7.1 :: ([] : List Int))).2.1) : Int), d7.2.2.1, d7.2.2.2.1, d7.2.2.2.2.1, (growF (mayD d7.2.2.2.2.1.1) d7.2.2.2.1 d7.2.2.1 f (wr IntKind.i64 (d7.1 + (1 : Int))) (↑(Int.toNat d7.2.1 + (1 : Nat)) : Int) (List.take (Int.toNat d7.2.1) d7.2.2.2.2.2.1 ++ d7.1 :: ([] : List Int))).2.2.1, ()) : Bool × Int × Int × Int × (Int × Int × Unit) × List Int × Unit)) else gd ((0 : Int) ≤ wr IntKind.i64 ((↑(Int.toNat (growF (mayD d7.2.2.2.2.1.1) d7.2.2.2.1 d7.2.2.1 f (wr IntKind.i64 (d7.1 + (1 : Int))) (↑(Int.toNat d7.2.1 + (1 : Nat)) : Int) (List.take (Int.toNat d7.2.1) d7.2.2.2.2.2.1 ++ d7.1 :: ([] : List Int))).2.1) : Int) - (1 : Int)) ∧ wr IntKind.i64 ((↑(Int.toNat (growF (mayD d7.2.2.2.2.1.1) d7.2.2.2.1 d7.2.2.1 f (wr IntKind.i64 (d7.1 + (1 : Int))) (↑(Int.toNat d7.2.1 + (1 : Nat)) : Int) (List.take (Int.toNat d7.2.1) d7.2.2.2.2.2.1 ++ d7.1 :: ([] : List Int))).2.1) : Int) - (1 : Int)) ≤ (↑(Int.toNat (growF (mayD d7.2.2.2.2.1.1) d7.2.2.2.1 d7.2.2.1 f (wr IntKind.i64 (d7.1 + (1 : Int))) (↑(Int.toNat d7.2.1 + (1 : Nat)) : Int) (List.take (Int.toNat d7.2.1) d7.2.2.2.2.2.1 ++ d7.1 :: ([] : List Int))).2.1) : Int)) (some (Lp.go ((wr IntKind.i64 (d7.1 + (1 : Int)), (↑(Int.toNat (wr IntKind.i64 ((↑(Int.toNat (growF (mayD d7.2.2.2.2.1.1) d7.2.2.2.1 d7.2.2.1 f (wr IntKind.i64 (d7.1 + (1 : Int))) (↑(Int.toNat d7.2.1 + (1 : Nat)) : Int) (List.take (Int.toNat d7.2.1) d7.2.2.2.2.2.1 ++ d7.1 :: ([] : List Int))).2.1) : Int) - (1 : Int)))) : Int), d7.2.2.1, d7.2.2.2.1, d7.2.2.2.2.1, (growF (mayD d7.2.2.2.2.1.1) d7.2.2.2.1 d7.2.2.1 f (wr IntKind.i64 (d7.1 + (1 : Int))) (↑(Int.toNat d7.2.1 + (1 : Nat)) : Int) (List.take (Int.toNat d7.2.1) d7.2.2.2.2.2.1 ++ d7.1 :: ([] : List Int))).2.2.1, ()) : Int × Int × Int × Int × (Int × Int × Unit) × List Int × Unit))))))) else some (Lp.go ((wr IntKind.i64 (d7.1 + (1 : Int)), (↑(Int.toNat d7.2.1) : Int), d7.2.2.1, d7.2.2.2.1, d7.2.2.2.2.1, d7.2.2.2.2.2.1, ()) : Int × Int × Int × Int × (Int × Int × Unit) × List Int × Unit))))) else some (Lp.out ((false, (↑(Int.toNat d7.2.1) : Int), d7.2.2.1, d7.2.2.2.1, d7.2.2.2.2.1, d7.2.2.2.2.2.1, ()) : Bool × Int × Int × Int × (Int × Int × Unit) × List Int × Unit))) ((x0, (↑(Int.toNat x1) : Int), x2, x3, x4, x5, ()) : Int × Int × Int × Int × (Int × Int × Unit) × List Int × Unit)
noncomputable def g99d_sh : List LSh := LSh.mk3 (((1, TV.ref (0) (1 : Nat) (0 : Nat) (0 : Nat)) : Nat × TV) :: ((2, TV.ref (1) (1 : Nat) (0 : Nat) (0 : Nat)) : Nat × TV) :: ((3, TV.ref (2) (1 : Nat) (0 : Nat) (0 : Nat)) : Nat × TV) :: ((4, TV.ref (3) (1 : Nat) (0 : Nat) (0 : Nat)) : Nat × TV) :: ((5, TV.ref (4) (1 : Nat) (0 : Nat) (0 : Nat)) : Nat × TV) :: ((8, TV.v (Ty.int IntKind.i64)) : Nat × TV) :: ([] : List (Nat × TV))) (TB.cells (TV.sl (6) (1) (0) :: ([] : List TV)) :: TB.cells (TV.v (Ty.int IntKind.i64) :: ([] : List TV)) :: TB.cells (TV.v (Ty.int IntKind.i64) :: ([] : List TV)) :: TB.cells (TV.fn (4179) (TV.cons (TV.v (Ty.prod (Ty.int IntKind.i64) (Ty.prod (Ty.int IntKind.i64) Ty.unit))) TV.nil) :: ([] : List TV)) :: TB.cells (TV.fn (99) (TV.cons (TV.ref (0) (1 : Nat) (0 : Nat) (0 : Nat)) (TV.cons (TV.ref (1) (1 : Nat) (0 : Nat) (0 : Nat)) (TV.cons (TV.ref (2) (1 : Nat) (0 : Nat) (0 : Nat)) (TV.cons (TV.ref (3) (1 : Nat) (0 : Nat) (0 : Nat)) (TV.cons (TV.ref (4) (1 : Nat) (0 : Nat) (0 : Nat)) TV.nil))))) :: ([] : List TV)) :: TB.dead :: TB.arr (Ty.int IntKind.i64) true :: ([] : List TB)) (6) :: ([] : List LSh)
def srD (d n size : Int) : Srch := growF (mayD d) n size 62 0 0 []
noncomputable def con77d : SCon := mkS 77 [.v I64, .v I64, F83] [] [.opt (.v LI)] [] (fun (n size : Int) (k : DeckD) => [1 ≤ size ∧ size ≤ 60, dOk n k]) (fun (n size : Int) (k : DeckD) => (!(srD k.1 n size).1, bif (srD k.1 n size).1 then foundL (srD k.1 n size) else [], ()))
noncomputable def g77d (x0 x1 : Int) (x2 : Int × Int × Unit) : Option (Bool × List Int × Unit) := gd (pre99 (62 : Nat) (0 : Int) (0 : Int) x0 x1 ([] : List Int)) (gd (dOk x0 x2) (bif !(growF (mayD x2.1) x0 x1 (62 : Nat) (0 : Int) (0 : Int) ([] : List Int)).1 then gd (true = true) (some ((true, ([] : List Int), ()) : Bool × List Int × Unit)) else gd ((0 : Nat) + Int.toNat (growF (mayD x2.1) x0 x1 (62 : Nat) (0 : Int) (0 : Int) ([] : List Int)).2.1 ≤ List.length (growF (mayD x2.1) x0 x1 (62 : Nat) (0 : Int) (0 : Int) ([] : List Int)).2.2.1) (gd (List.length (List.take (Int.toNat (growF (mayD x2.1) x0 x1 (62 : Nat) (0 : Int) (0 : Int) ([] : List Int)).2.1) (List.drop (0 : Nat) (growF (mayD x2.1) x0 x1 (62 : Nat) (0 : Int) (0 : Int) ([] : List Int)).2.2.1)) ≠ (0 : Nat)) (some ((false, List.take (Int.toNat (growF (mayD x2.1) x0 x1 (62 : Nat) (0 : Int) (0 : Int) ([] : List Int)).2.1) (List.drop (0 : Nat) (growF (mayD x2.1) x0 x1 (62 : Nat) (0 : Int) (0 : Int) ([] : List Int)).2.2.1), ()) : Bool × List Int × Unit)))))
noncomputable def g77d_sh : List LSh := ([] : List LSh)
def capN (d : Int) : Int := if d = 1 then 2 else if d = 2 then 4 else 9
def grtX (d : Int) : List Int × Int × Unit := if decide (1 ≤ d) && decide (d ≤ 3) then (bif (srD d (sizeF d) (capN d)).1 then foundL (srD d (sizeF d) (capN d)) else [], 0, ()) else ([], 2, ())
noncomputable def con45 : Con := mkC 45 [.d I64] [LI, I64] (fun (d : Int) => []) (fun (d : Int) => grtX d)
noncomputable def g45 (x0 : Int) : Option (List Int × Int × Unit) := gd (small ([] : List Int)) (gd ((2 : Nat) ≤ (2 : Nat)) (gd ((!!(readF x0 ([] : List Int)).2.1) = true → (!!(readF x0 ([] : List Int)).2.1) = true) (gd ((!(readF x0 ([] : List Int)).2.1) = false → (!!(readF x0 ([] : List Int)).2.1) = true) (bif bif !(readF x0 ([] : List Int)).2.1 then true else ilt (3 : Int) x0 then some ((([] : List Int), (2 : Int), ()) : List Int × Int × Unit) else gd ((0 : Int) ≤ x0 ∧ x0 < (4 : Int)) (gd ((1 : Nat) < (2 : Nat)) (gd ((2 : Nat) ≤ (2 : Nat)) (gd ((1 : Int) ≤ (@id Int (arrGet (4 : Nat) (Ty.int IntKind.i64) ((((0 : Int), (2 : Int), (4 : Int), (9 : Int), ()) : Int × Int × Int × Int × Unit) : Int × Int × Int × Int × Unit) (Int.toNat x0))) ∧ (@id Int (arrGet (4 : Nat) (Ty.int IntKind.i64) ((((0 : Int), (2 : Int), (4 : Int), (9 : Int), ()) : Int × Int × Int × Int × Unit) : Int × Int × Int × Int × Unit) (Int.toNat x0))) ≤ (60 : Int)) (gd (dOk (readF x0 ([] : List Int)).1.2.1 (((readF x0 ([] : List Int)).1.1, (readF x0 ([] : List Int)).1.2.1, ()) : Int × Int × Unit)) (some ((bif !(srD (readF x0 ([] : List Int)).1.1 (readF x0 ([] : List Int)).1.2.1 (@id Int (arrGet (4 : Nat) (Ty.int IntKind.i64) ((((0 : Int), (2 : Int), (4 : Int), (9 : Int), ()) : Int × Int × Int × Int × Unit) : Int × Int × Int × Int × Unit) (Int.toNat x0)))).1 then ([] : List Int) else bif (srD (readF x0 ([] : List Int)).1.1 (readF x0 ([] : List Int)).1.2.1 (@id Int (arrGet (4 : Nat) (Ty.int IntKind.i64) ((((0 : Int), (2 : Int), (4 : Int), (9 : Int), ()) : Int × Int × Int × Int × Unit) : Int × Int × Int × Int × Unit) (Int.toNat x0)))).1 then foundL (srD (readF x0 ([] : List Int)).1.1 (readF x0 ([] : List Int)).1.2.1 (@id Int (arrGet (4 : Nat) (Ty.int IntKind.i64) ((((0 : Int), (2 : Int), (4 : Int), (9 : Int), ()) : Int × Int × Int × Int × Unit) : Int × Int × Int × Int × Unit) (Int.toNat x0)))) else ([] : List Int), (0 : Int), ()) : List Int × Int × Unit))))))))))
noncomputable def g45_sh : List LSh := ([] : List LSh)

/-! the reference -/
end Go.Caps

set_option linter.unusedVariables false
set_option linter.unusedSimpArgs false
namespace Go.Caps
open Go Go.Ab Go.Proofs

theorem goal83 : con83.goal Try.prog (spOf [con67, con53]) g83_sh [] lm30 := by
  have e : (∀ (k : DeckD) (l : List Int) (x : Int), dkOk k → cdOk k.1 l → g83 k l x = some (mayD k.1 l x, ())) = con83.goal Try.prog (spOf [con67, con53]) g83_sh [] lm30 := by kernel_rfl
  rw [← e]
  rintro k l x ⟨h1, h2⟩ ⟨h3, h4⟩
  have hs : small (freeF k.1 l) := by have := free_len (d := k.1) (l := l); unfold small; omega
  unfold g83 mayD
  rw [gd_pos (Nat.le_refl _), gd_pos h1, gd_pos h2]
  refine (gd_pos h3).trans ?_
  rw [gd_pos h4, gd_pos hs]
set_option maxRecDepth 100000 in
theorem ok83 : con83.Ok Try.prog := Con.of_goal mixed (okC ok67 (okC ok53 okN)) con83 goal83
theorem size_pos {d : Int} (h : isD d = true) : 3 ≤ sizeF d := by
  rcases isD_cases h with rfl | rfl | rfl | rfl <;> decide
theorem cd_of {d frm : Int} {l : List Int} (h : risTo frm l) (hf : frm ≤ sizeF d) : cdOk d l := by
  obtain ⟨h1, h2⟩ := h
  have hs := size_le (d := d)
  refine ⟨fun x hx => inC_iff.2 (by have := h2 x hx; omega), ?_⟩
  rcases l with _ | ⟨y, l⟩
  · simp
  · have hy := h2 y (List.mem_cons_self ..)
    have := ris_short (n := sizeF d - 1) (by omega) h1 (fun x hx => by have := h2 x hx; omega)
    omega

theorem ok99d_0 : (con99d 0).Ok Try.prog := scon_false _ (by kernel_rfl) (by
  have e : (∀ (frm len size n : Int) (k : DeckD) (a : List Int) (p : List Prop), some [pre99 0 frm len n size a, dOk n k] = some p → ¬ allP p) = (allD ((con99d 0).ins.flatMap TV.ts ++ tsB (con99d 0).ibl) fun env => ∀ p, (con99d 0).pre env = some p → ¬ allP p) := by kernel_rfl
  rw [← e]
  intro frm len size n k a p hp hq
  cases hp
  have := (allP_cons.1 hq).1
  unfold pre99 at this
  omega)
theorem goal99d (f : Nat) : (con99d (f + 1)).goal Try.prog (spS [con99d f] [con83]) g99d_sh [] lm30 := by
  have e : (∀ (frm len size n : Int) (k : DeckD) (a : List Int), pre99 (f + 1) frm len n size a → dOk n k → g99d f frm len size n k a = some ((growF (mayD k.1) n size (f + 1) frm len a).1, (growF (mayD k.1) n size (f + 1) frm len a).2.1, size, n, k, (growF (mayD k.1) n size (f + 1) frm len a).2.2.1, ())) = (con99d (f + 1)).goal Try.prog (spS [con99d f] [con83]) g99d_sh [] lm30 := by kernel_rfl
  rw [← e]
  intro frm len size n k a hp hq
  have hp0 := hp
  obtain ⟨h0, hls, hs60, hn0, hn, hf0, hfu, ha, hr⟩ := hp
  skip
  have hlen : ((len.toNat : Nat) : Int) = len := by omega
  unfold g99d
  rw [hlen]
  by_cases hk : len = size
  · rw [cond_t (by rw [ieq_d]; simpa using hk)]
    simp only [growF, if_pos hk]
  · rw [cond_f (by rw [ieq_d]; simpa using hk)]
    simp only [growF, if_neg hk]
    have hl : (a.take len.toNat).length = len.toNat := by rw [List.length_take]; omega
    have hX : ∀ x : Int, (a.take len.toNat ++ [x]).length = len.toNat + 1 := fun x => by simp only [List.length_append, hl, List.length_singleton]
    have hG := fun x : Int => growF_ok (may := (mayD k.1)) (n := n) (size := size) f (x + 1) (len + 1) (a.take len.toNat ++ [x]) (by omega) (by rw [hX x]; omega)
    have ht : ∀ x : Int, (a.take len.toNat ++ [x]).take (len + 1).toNat = a.take len.toNat ++ [x] := fun x => List.take_of_length_le (by rw [hX x]; omega)
    simp only [ht] at hG
    have hpn := fun (x : Int) (hx : frm ≤ x) => pre_next hp0 hk hx
    have hw1 : ((len.toNat + 1 : Nat) : Int) = len + 1 := by omega
    have hw2 : wr .i64 (len + 1 - 1) = len := by rw [wr_id (by omega)]; omega
    have hw3 : wr .i64 (n - wr .i64 (size - len)) = n - (size - len) := by rw [wr_id (n := size - len) (by omega), wr_id (by omega)]
    have c2 : (((len.toNat + 1) * 8 ≤ 1099511627776) = True) := by simp; omega
    have hnone : ∀ x : Int, (growF (mayD k.1) n size f (x + 1) (len + 1) (a.take len.toNat ++ [x])).1 = false → dfsF (mayD k.1) n size f (x + 1) (a.take len.toNat ++ [x]) = none := fun x hr => by
      have := (hG x).1
      rw [hr] at this
      simpa using this.symm
    have hP : ∀ x, frm ≤ x → x < n - (size - len) + 1 → cdOk k.1 (a.take len.toNat) := fun x hx1 hx2 => cd_of hr (by have := hq.2; omega)
    refine tryF_loop (C := n - (size - len) + 1) (frm := frm) (st := fun x a => ((x, len, size, n, k, a, ()) : Int × Int × Int × Int × DeckD × List Int × Unit)) (out := fun s => (s.1, s.2.1, size, n, k, s.2.2.1, ())) hl ?_ ?_ ?_ ?_ ?_ _ frm a rfl (Int.le_refl _) rfl
    · intro x b hx1 hx2 hb hm
      have c1 : ile x (n - (size - len)) = true := by rw [ile_d]; simp only [decide_eq_true_eq]; omega
      have cb : len.toNat ≤ b.length := by rw [← hl, ← hb, List.length_take]; omega
      have hI : True := trivial
      have hw : wr .i64 (x + 1) = x + 1 := wr_id (by omega)
      simp only [hlen, hw3, c1, cond_true, Nat.zero_add, gd_pos cb, List.drop_zero, gd_pos hq.1, hb, gd_pos (hP x hx1 hx2), hm, cond_false, hw]
    · intro x b hx1 hx2 hb hm hgr
      have c1 : ile x (n - (size - len)) = true := by rw [ile_d]; simp only [decide_eq_true_eq]; omega
      have cb : len.toNat ≤ b.length := by rw [← hl, ← hb, List.length_take]; omega
      have hI : True := trivial
      have hw : wr .i64 (x + 1) = x + 1 := wr_id (by omega)
      have hpos : ((((growF (mayD k.1) n size f (x + 1) (len + 1) (a.take len.toNat ++ [x])).2.1).toNat : Nat) : Int) = (growF (mayD k.1) n size f (x + 1) (len + 1) (a.take len.toNat ++ [x])).2.1 := by rw [(hG x).2.1]; simp
      simp only [hlen, hw3, c1, cond_true, Nat.zero_add, gd_pos cb, List.drop_zero, gd_pos hq.1, hb, gd_pos (hP x hx1 hx2), hm, hw, c2, gd_true, hw1, gd_pos (hpn x hx1), gd_pos hq, hgr, hpos]
    · intro x b hx1 hx2 hb hm hgr
      have c1 : ile x (n - (size - len)) = true := by rw [ile_d]; simp only [decide_eq_true_eq]; omega
      have cb : len.toNat ≤ b.length := by rw [← hl, ← hb, List.length_take]; omega
      have hI : True := trivial
      have hw : wr .i64 (x + 1) = x + 1 := wr_id (by omega)
      have h21 : (growF (mayD k.1) n size f (x + 1) (len + 1) (a.take len.toNat ++ [x])).2.1 = len + 1 := by
        have := (hG x).2.1
        rw [hnone x hgr, Option.getD_none, hX] at this
        rw [this]; omega
      have h22 : (len + 1).toNat = len.toNat + 1 := by omega
      simp only [hlen, hw3, c1, cond_true, Nat.zero_add, gd_pos cb, List.drop_zero, gd_pos hq.1, hb, gd_pos (hP x hx1 hx2), hm, hw, c2, gd_true, hw1, gd_pos (hpn x hx1), gd_pos hq, hgr, h21, h22, hw2, cond_false]
      rw [gd_pos (by omega)]
    · intro x b hx hb
      have c1 : ile x (n - (size - len)) = false := by rw [ile_d]; simp only [decide_eq_false_iff_not]; omega
      simp only [hlen, hw3, c1, cond_false]
    · intro x hx1 hx2 hgr
      have h3 := (hG x).2.2
      rw [hnone x hgr, Option.getD_none, hX] at h3
      have := congrArg (List.take len.toNat) h3
      rw [List.take_take, Nat.min_eq_left (by omega), List.take_append_of_le_length (by omega), List.take_take, Nat.min_self] at this
      exact this
set_option maxRecDepth 100000 in
theorem ok99d : ∀ f, (con99d f).Ok Try.prog
  | 0 => ok99d_0
  | f + 1 => SCon.of_goal mixed (okC ok83 okN) (okS (ok99d f) okS0) (con99d (f + 1)) (goal99d f)


theorem goal77d : con77d.goal Try.prog (spS [con99d 62] [con83]) g77d_sh [9] lm30 := by
  have e : (∀ (n size : Int) (k : DeckD), (1 ≤ size ∧ size ≤ 60) → dOk n k → g77d n size k = some (!(srD k.1 n size).1, bif (srD k.1 n size).1 then foundL (srD k.1 n size) else [], ())) = con77d.goal Try.prog (spS [con99d 62] [con83]) g77d_sh [9] lm30 := by kernel_rfl
  rw [← e]
  rintro n size k ⟨h1, h2⟩ hq
  have hn : 0 ≤ n ∧ n ≤ 100 := by have := hq.2; have := size_le (d := k.1); have := size_pos hq.1.1; omega
  have hp : pre99 62 0 0 n size [] := ⟨by omega, by omega, by omega, by omega, by omega, by omega, by omega, by simp, rfl, fun x hx => nomatch hx⟩
  unfold g77d srD
  cases hd : dfsF (mayD k.1) n size 62 0 [] with
  | none => simp [sr_none hd, gd_true, gd_pos hp, gd_pos hq]
  | some r =>
    obtain ⟨s1, s2, s3, s4⟩ := sr_some hd
    have hl := dfs_len _ _ _ _ hd
    have e2 : ∀ s : Srch, foundL s = s.2.2.1.take s.2.1.toNat := fun _ => rfl
    simp only [s1, Bool.not_true, cond_false, cond_true, Nat.zero_add, List.drop_zero, e2, gd_pos hp, gd_pos hq]
    rw [gd_pos (by omega), gd_pos (by rw [List.length_take]; omega)]
set_option maxRecDepth 100000 in
theorem ok77d : con77d.Ok Try.prog := SCon.of_goal mixed (okC ok83 okN) (okS (ok99d 62) okS0) con77d goal77d



theorem cap_at {d : Int} (h1 : 1 ≤ d) (h3 : d ≤ 3) : (@id Int (arrGet (4 : Nat) (Ty.int .i64) ((((0 : Int), (2 : Int), (4 : Int), (9 : Int), ()) : Int × Int × Int × Int × Unit)) (Int.toNat d))) = capN d := by
  have : d = 1 ∨ d = 2 ∨ d = 3 := by omega
  rcases this with rfl | rfl | rfl <;> rfl
theorem cap_le {d : Int} : 2 ≤ capN d ∧ capN d ≤ 9 := by
  unfold capN
  split
  · omega
  · split <;> omega
theorem goal45 : con45.goal Try.prog (spS [con77d] [con56, con83]) g45_sh [] lm30 := by
  have e : (∀ (d : Int), g45 d = some (grtX d)) = con45.goal Try.prog (spS [con77d] [con56, con83]) g45_sh [] lm30 := by kernel_rfl
  rw [← e]
  intro d
  have hs : small ([] : List Int) := by unfold small; simp
  have hc := cap_le (d := d)
  unfold g45 grtX
  rw [gd_pos hs, gd_pos (Nat.le_refl _)]
  by_cases hd : isD d = true
  · obtain ⟨q1, q2⟩ := isD_iff.1 hd
    by_cases h3 : d ≤ 3
    · have hdk : dOk (sizeF d) (d, sizeF d, ()) := ⟨⟨hd, rfl⟩, rfl⟩
      simp [readF, hd, gd_true, cap_at q1 h3, ilt_false.2 h3, q1, h3]
      rw [gd_pos (by omega), gd_pos (by omega), gd_pos hdk]
      cases (srD d (sizeF d) (capN d)).1 <;> rfl
    · simp [readF, hd, gd_true, ilt_iff.2 (show 3 < d by omega), h3]
  · have hd' : ¬ (1 ≤ d ∧ d ≤ 3) := fun h => hd (isD_iff.2 (by omega))
    have hd2 : (decide (1 ≤ d) && decide (d ≤ 3)) = false := by
      rw [Bool.eq_false_iff]; intro h; simp only [Bool.and_eq_true, decide_eq_true_eq] at h; exact hd' h
    simp [readF, hd, gd_true, hd2]
set_option maxRecDepth 100000 in
theorem ok45 : con45.Ok Try.prog := Con.of_goalS mixed (okC ok56 (okC ok83 okN)) (okS ok77d okS0) con45 goal45
end Go.Caps

set_option linter.unusedVariables false
set_option linter.unusedSimpArgs false
namespace Go.Caps
open Go Go.Ab Go.Proofs

end Go.Caps

set_option linter.unusedVariables false
set_option linter.unusedSimpArgs false
namespace Go.Caps
open Go Go.Ab Go.Proofs

section
variable {good : List Int → Bool} {n : Int}
/-- B is what is left after those of E are looked at. -/
def Bst (E : List Int → Prop) (b B : List Int) : Prop := (B = b ∨ (E B ∧ b.length < B.length ∧ ∀ w, E w → w.length = B.length → LexLe B w)) ∧ b.length ≤ B.length ∧ ∀ w, E w → w.length ≤ B.length

theorem Bst.congr {E E' : List Int → Prop} {b B : List Int} (h : Bst E b B) (he : ∀ w, E' w ↔ E w) : Bst E' b B := by
  obtain ⟨h1, h2, h3⟩ := h
  refine ⟨h1.imp id fun ⟨a1, a2, a3⟩ => ⟨(he _).2 a1, a2, fun w hw => a3 w ((he w).1 hw)⟩, h2, fun w hw => h3 w ((he w).1 hw)⟩
theorem Bst.none {E : List Int → Prop} {b : List Int} (h : ∀ w, E w → w.length ≤ b.length) : Bst E b b := ⟨.inl rfl, Nat.le_refl _, h⟩
theorem Bst.seq {E1 E2 : List Int → Prop} {b B1 B2 : List Int} (h1 : Bst E1 b B1) (h2 : Bst E2 B1 B2) (hl : ∀ u v, E1 u → E2 v → u.length = v.length → LexLe u v) : Bst (fun w => E1 w ∨ E2 w) b B2 := by
  obtain ⟨a1, a2, a3⟩ := h1
  obtain ⟨c1, c2, c3⟩ := h2
  refine ⟨?_, by omega, fun w hw => ?_⟩
  · rcases c1 with rfl | ⟨d1, d2, d3⟩
    · rcases a1 with rfl | ⟨e1, e2, e3⟩
      · exact .inl rfl
      · refine .inr ⟨.inl e1, e2, fun w hw he => ?_⟩
        rcases hw with hw | hw
        · exact e3 w hw he
        · exact hl _ _ e1 hw he.symm
    · refine .inr ⟨.inr d1, by omega, fun w hw he => ?_⟩
      rcases hw with hw | hw
      · have := a3 w hw; omega
      · exact d3 w hw he
  · rcases hw with hw | hw
    · have := a3 w hw; omega
    · exact c3 w hw

end

end Go.Caps

set_option linter.unusedVariables false
set_option linter.unusedSimpArgs false
namespace Go.Caps
open Go Go.Ab Go.Proofs

theorem mem_flt {q : Nat → Bool} {n : Nat} {x : Int} : x ∈ flt q n ↔ ∃ k, k < n ∧ q k = true ∧ (k : Int) = x := by
  unfold flt
  simp only [List.mem_map, List.mem_filter, List.mem_range, and_assoc]
theorem may_free {d x : Int} {l : List Int} : mayD d l x = (decide (0 ≤ x) && decide (x < sizeF d) && !badN d l l.length x) := by
  unfold mayD freeF
  rw [Bool.eq_iff_iff, List.contains_iff_mem, mem_flt]
  simp only [Bool.and_eq_true, decide_eq_true_eq]
  constructor
  · rintro ⟨k, h1, h2, rfl⟩
    exact ⟨⟨by omega, by omega⟩, h2⟩
  · rintro ⟨⟨h1, h2⟩, h3⟩
    have e : ((x.toNat : Nat) : Int) = x := by omega
    exact ⟨x.toNat, by omega, by rw [e]; exact h3, e⟩
end Go.Caps

set_option linter.unusedVariables false
set_option linter.unusedSimpArgs false
namespace Go.Caps
open Go Go.Ab Go.Proofs

end Go.Caps

set_option linter.unusedVariables false
set_option linter.unusedSimpArgs false
namespace Go.Caps
open Go Go.Ab Go.Proofs

theorem grt_no {n : Int} (h : ¬ (1 ≤ n ∧ n ≤ 3)) : grtX n = ([], 2, ()) := by
  unfold grtX
  have : (decide (1 ≤ n) && decide (n ≤ 3)) = false := by
    rw [Bool.eq_false_iff]; intro h'; simp only [Bool.and_eq_true, decide_eq_true_eq] at h'; exact h h'
  rw [this]; rfl
end Go.Caps
