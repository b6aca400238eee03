/- Soundness, eleventh part: append. -/
import Derived.Test.YtffapeomfjfedaaAb13
set_option linter.unusedVariables false
set_option linter.unusedSimpArgs false
namespace Go.Ab

section
variable {P : Program} {Γ : Cx} {H : List Hs} {w : World} {S : St} {a : Act}

/-- A list of cells that holds some elements one behind the other. -/
def Seg (w : World) (I : Nat → Prop) (te : Ty) (xs : List (Den te)) (L : List Value) : Prop :=
  L.length = xs.length * sz te ∧ ∀ (i : Nat) (x : Den te), xs[i]? = some x → RepC w I te x ((L.drop (i * sz te)).take (sz te))

theorem Seg.nil {I : Nat → Prop} {te : Ty} : Seg w I te [] [] := ⟨by simp, fun i x h => by simp at h⟩

theorem Seg.cons {I : Nat → Prop} {te : Ty} {x : Den te} {xs : List (Den te)} {c L : List Value} (h : RepC w I te x c) (hs : Seg w I te xs L) : Seg w I te (x :: xs) (c ++ L) := by
  have hl := RepC.length _ _ _ h
  refine ⟨by rw [List.length_append, hs.1, hl, List.length_cons, Nat.succ_mul]; omega, fun i y hy => ?_⟩
  cases i with
  | zero => simp at hy; subst hy; simpa [← hl] using h
  | succ i =>
    have e : (i + 1) * sz te - c.length = i * sz te := by rw [Nat.succ_mul]; omega
    rw [List.drop_append, List.drop_eq_nil_of_le (by rw [Nat.succ_mul]; omega), e]
    simpa using hs.2 i y (by simpa using hy)

theorem Seg.append {I : Nat → Prop} {te : Ty} {xs ys : List (Den te)} {L M : List Value} (h : Seg w I te xs L) (hs : Seg w I te ys M) : Seg w I te (xs ++ ys) (L ++ M) := by
  refine ⟨by rw [List.length_append, h.1, hs.1, List.length_append, Nat.add_mul], fun i y hy => ?_⟩
  by_cases hi : i < xs.length
  · rw [List.getElem?_append_left hi] at hy
    have hle : (i + 1) * sz te ≤ xs.length * sz te := Nat.mul_le_mul_right _ hi
    rw [Nat.succ_mul] at hle
    rw [List.drop_append_of_le_length (by rw [h.1]; omega), List.take_append_of_le_length (by rw [List.length_drop, h.1]; omega)]
    exact h.2 i y hy
  · rw [List.getElem?_append_right (by omega)] at hy
    have hge : xs.length * sz te ≤ i * sz te := Nat.mul_le_mul_right _ (by omega)
    rw [List.drop_append, List.drop_eq_nil_of_le (by rw [h.1]; exact hge), h.1, ← Nat.sub_mul]
    simpa using hs.2 _ y hy

theorem Seg.mono {w' : World} {I I' : Nat → Prop} {te : Ty} {xs : List (Den te)} {L : List Value} (hI : ∀ b, I b → I' b) (hw : ∀ b, I b → w'.heap[b]? = w.heap[b]?) (h : Seg w I te xs L) : Seg w' I' te xs L :=
  ⟨h.1, fun i x hx => RepC.mono hI hw te x _ (h.2 i x hx)⟩

theorem Seg.oneCell {I : Nat → Prop} {te : Ty} : ∀ {xs : List (Den te)} {L : List Value}, Seg w I te xs L → ∀ v ∈ L, v.oneCell' = true
  | xs, L, h, v, hv => by
    obtain ⟨j, hj, rfl⟩ := List.mem_iff_getElem.1 hv
    by_cases h0 : sz te = 0
    · have := h.1; rw [h0, Nat.mul_zero] at this; omega
    · have hjl : j < xs.length * sz te := by rw [← h.1]; exact hj
      have hi : j / sz te < xs.length := by rw [Nat.div_lt_iff_lt_mul (by omega)]; exact hjl
      have hr := h.2 _ _ (List.getElem?_eq_getElem hi)
      refine RepC.oneCell _ _ _ hr _ ?_
      apply List.mem_of_getElem? (i := j % sz te)
      rw [List.getElem?_take, if_pos (Nat.mod_lt _ (by omega)), List.getElem?_drop, Nat.mul_comm, Nat.div_add_mod, List.getElem?_eq_getElem hj]

/-- Elements that lie behind an address. -/
def SrcAt (w : World) (I : Nat → Prop) (te : Ty) (ys : List (Den te)) (ad : Option Addr) : Prop :=
  ∀ (i : Nat) (x : Den te), ys[i]? = some x → ∃ b off cs, ad = some ⟨b, off, none⟩ ∧ RepC w I te x cs ∧ CellsAt w b (off + i * sz te) cs

theorem src_seg {I : Nat → Prop} {te : Ty} {b : Nat} : ∀ {ys : List (Den te)} {off : Nat}, SrcAt w I te ys (some ⟨b, off, none⟩) → ∃ L, Seg w I te ys L ∧ CellsAt w b off L
  | [], off, _ => ⟨[], Seg.nil, fun j v h => by simp at h⟩
  | y :: ys, off, h => by
    obtain ⟨b', off', c, e, g1, g2⟩ := h 0 y rfl
    cases e
    have hl := RepC.length _ _ _ g1
    obtain ⟨L, k1, k2⟩ := src_seg (b := b) (ys := ys) (off := off + sz te) fun i x hx => by
      obtain ⟨b', off', c', e, m1, m2⟩ := h (i + 1) x (by simpa using hx)
      cases e
      exact ⟨b, off + sz te, c', rfl, m1, by rw [show off + sz te + i * sz te = off + (i + 1) * sz te by rw [Nat.succ_mul]; omega]; exact m2⟩
    exact ⟨c ++ L, Seg.cons g1 k1, CellsAt.app.2 ⟨by simpa using g2, by rw [hl]; exact k2⟩⟩

theorem src_some {I : Nat → Prop} {te : Ty} {ys : List (Den te)} {ad : Option Addr} (h : SrcAt w I te ys ad) (h0 : 0 < ys.length) : ∃ b off, ad = some ⟨b, off, none⟩ := by
  obtain ⟨b, off, _, e, _⟩ := h 0 ys[0] (List.getElem?_eq_getElem h0)
  exact ⟨b, off, e⟩

theorem ListAt.src {I : Nat → Prop} {te : Ty} {ys : List (Den te)} {ad : Option Addr} (h : ListAt w I te ys ad) : SrcAt w I te ys ad := fun i x hx => by
  obtain ⟨b, off, cs, e, _, g2, g3⟩ := h i x hx
  exact ⟨b, off, cs, e, g2, g3⟩

/-- The elements of a part of a mutable row. -/
theorem arr_src {b : Nat} {te : Ty} {xs : List (Den te)} {opn : Bool} (h : RepB w Γ b (.arr te xs opn)) {i len : Nat} {ad : Option Addr} (had : len ≠ 0 → ad = some ⟨Γ.ν b, i * sz te, none⟩) : SrcAt w Γ.I te ((xs.drop i).take len) ad := by
  intro j x hx
  rw [List.getElem?_take] at hx
  split at hx
  · rw [List.getElem?_drop] at hx
    obtain ⟨cs, g1, g2⟩ := arr_elem h hx
    refine ⟨_, _, cs, had (by omega), g1, ?_⟩
    rw [← Nat.add_mul]
    exact g2
  · cases hx

theorem rvL_sound (e : EmbH Γ H w) {te : Ty} {x : AV} {q : List Prop} {ys : List (Den te)} {v : Value} (h : rvL H te x = some (q, ys)) (hq : allP q) (hr : Ra w Γ x v) :
    ∃ ad cap, v = .slice ad ys.length cap ∧ SrcAt w Γ.I te ys ad := by
  unfold rvL at h
  simp only [rv] at h
  split at h
  · rename_i t' y heq
    cases heq
    cases hc : castD t' (.slice te) y with
    | none => rw [hc] at h; cases h
    | some z =>
      rw [hc] at h
      obtain ⟨e1, e2⟩ := castD_eq hc
      subst e1
      subst e2
      cases h
      obtain ⟨ad, cap, hv, _, _, hat⟩ := RepV_slice.1 (Ra_val.1 hr)
      exact ⟨ad, cap, hv, hat.src⟩
  · rename_i t' y c heq
    cases heq
    cases hc : castD (.slice t') (.slice te) y with
    | none => rw [hc] at h; cases h
    | some z =>
      rw [hc] at h
      obtain ⟨e1, e2⟩ := castD_eq hc
      cases e1
      subst e2
      cases h
      obtain ⟨ad, hv, _, _, hat⟩ := Ra_vsl.1 hr
      exact ⟨ad, c, hv, hat.src⟩
  · rename_i b s i len c heq
    cases heq
    cases hc : arrElems H te b s with
    | none => rw [hc] at h; cases h
    | some zs =>
      rw [hc] at h
      cases h
      have hle := allP_one.1 hq
      unfold arrElems at hc
      split at hc
      · rename_i te' xs opn hg
        by_cases hs : s = sz te'
        · rw [if_pos hs] at hc
          obtain ⟨e1, e2⟩ := castL_eq hc
          subst e1
          subst e2
          obtain ⟨hA, ad, cap, hv, hcap, hoff, hlc⟩ := Ra_sl.1 hr
          have hB := e.blk b _ (hget_eq hg)
          refine ⟨ad, cap, ?_, arr_src hB (fun h0 => by rw [hoff (by omega), hs])⟩
          rw [hv]
          congr 1
          rw [List.length_take, List.length_drop]
          have hle' : i + len ≤ zs.length := hle
          omega
        · rw [if_neg hs] at hc; cases hc
      · cases hc
  · cases h

theorem append_place {t ty e : TypeId} {inf : TypeInfo} (ht : P.underlying t = some (.slice e)) (hi : P.info? e = some inf) {g off sLen sCap : Nat} {cur : Array Value} {el : TypeId} (hg : w.heap[g]? = some (.cells cur el (0, 0)))
    {b o2 m c : Nat} {news : List Value} (hl : news.length = m * inf.size) (hnews : CellsAt w b o2 news) (h1 : ∀ u ∈ news, u.oneCell' = true) (hroom : sLen + m ≤ sCap) (hfit : off + sLen * inf.size + news.length ≤ cur.size) :
    (Builtin.append_ #[t, t] ty #[.slice (some ⟨g, off, none⟩) sLen sCap, .slice (some ⟨b, o2, none⟩) m c]).run P w =
      .ok (.slice (some ⟨g, off, none⟩) (sLen + m) sCap) (w.setRow g (rowSet cur (off + sLen * inf.size) news)) := by
  have hf := run_firstCells_some (P := P) w inf.size m ⟨b, o2, none⟩ m c news hl (fun j v hj => by rw [addr_add]; exact hnews j v hj)
  have hst := run_storeCells_at P g (off + sLen * inf.size) el news 0 cur w hg (by simpa using hfit) h1
  simp only [Nat.add_zero] at hst
  simp [Builtin.append_, run_underlying ht, sizeOf, typeInfo, hi, Builtin.lenOf, hroom, hf, addr_add, hst, rowSet]

theorem append_zero {t ty e : TypeId} {inf : TypeInfo} (ht : P.underlying t = some (.slice e)) (hi : P.info? e = some inf) {ad ad2 : Option Addr} {sLen sCap c : Nat} (hroom : sLen ≤ sCap) :
    (Builtin.append_ #[t, t] ty #[.slice ad sLen sCap, .slice ad2 0 c]).run P w = .ok (.slice ad sLen sCap) w := by
  have hl0 : ∀ (x : Addr), (loadCells x 0).run P w = .ok #[] w := fun x => by simpa using run_loadCells_list (P := P) w x [] (by simp)
  cases ad <;> cases ad2 <;> simp [Builtin.append_, run_underlying ht, sizeOf, typeInfo, hi, Builtin.lenOf, hroom, Builtin.firstCells, hl0, storeCells]

/-- What a grown row holds. -/
theorem grown_rep {Γ' : Cx} {w' : World} {k : Nat} {te : Ty} {xs ys : List (Den te)} {L M : List Value} {z : Value} {el : TypeId} {cap : Nat} (h1 : Seg w' Γ'.I te xs L) (h2 : Seg w' Γ'.I te ys M) (hz : z.cells.size = sz te) (hcap : xs.length + ys.length ≤ cap)
    (hh : w'.heap[Γ'.ν k]? = some (.cells (L.toArray ++ M.toArray ++ Builtin.zeroCells z.cells (cap - (xs.length + ys.length))) el (0, 0))) (hk : Γ'.κ k = cap) : RepB w' Γ' k (.arr te (xs ++ ys) true) := by
  have hs := h1.append h2
  refine RepB_arr_of hh ?_ (by rw [hk]; simpa using hcap) (by simp) (fun i x hx => ?_)
  · rw [hk]
    simp only [Array.size_append, List.size_toArray, size_zeroCells, hz]
    rw [h1.1, h2.1, ← Nat.add_mul, ← Nat.add_mul]
    congr 1; omega
  · have hi : i < (xs ++ ys).length := by
      rcases Nat.lt_or_ge i (xs ++ ys).length with h | h
      · exact h
      · rw [List.getElem?_eq_none h] at hx; cases hx
    have hle : (i + 1) * sz te ≤ (xs ++ ys).length * sz te := Nat.mul_le_mul_right _ hi
    rw [Nat.succ_mul] at hle
    have := hs.2 i x hx
    simp only [Array.toList_append, List.append_assoc]
    rw [← List.append_assoc, List.drop_append_of_le_length (by rw [hs.1]; omega), List.take_append_of_le_length (by rw [List.length_drop, hs.1]; omega)]
    exact this

theorem putUp_nil (H : List Hs) : putUp H [] = H := rfl

/-- The run of an append that must grow; what it leaves. -/
theorem append_grow {t ty e : TypeId} {inf : TypeInfo} {z : Value} {te : Ty} (ht : P.underlying t = some (.slice e)) (hte : tyS P e = some te) (hi : P.info? e = some inf) (hz : inf.zero = some z) (hzs : z.cells.size = sz te)
    (em : EmbH Γ H w) {k : Nat} (hk : H[k]? = some .free) {xs ys : List (Den te)} {ad ad2 : Option Addr} {c c2 : Nat} (h1 : SrcAt w Γ.I te xs ad) (h2 : SrcAt w Γ.I te ys ad2) (had : ad = none → c = 0) (hle : xs.length ≤ c) (hg : c < xs.length + ys.length)
    (had1 : ∀ x, ad = some x → x.spot = none) (hb : (xs.length + ys.length) * inf.bytes ≤ 1099511627776) (hb0 : 0 < inf.bytes) :
    ∃ Γ' w' cap, (Builtin.append_ #[t, t] ty #[.slice ad xs.length c, .slice ad2 ys.length c2]).run P w = .ok (.slice (some ⟨w.heap.size, 0, none⟩) (xs.length + ys.length) cap) w' ∧
      EmbH Γ' (H.set k (.live (.arr te (xs ++ ys) true))) w' ∧ Ext Γ H w Γ' (H.set k (.live (.arr te (xs ++ ys) true))) w' ∧ Ra w' Γ' (.sl k (sz te) 0 (xs.length + ys.length) none) (.slice (some ⟨w.heap.size, 0, none⟩) (xs.length + ys.length) cap) := by
  obtain ⟨inf', d, hi', _, hsz, _⟩ := tyS_spec hte
  rw [hi] at hi'; cases hi'
  have hn : 0 < ys.length := by omega
  obtain ⟨b2, o2, rfl⟩ := src_some h2 hn
  obtain ⟨M, m1, m2⟩ := src_seg h2
  have hsmall : xs.length + ys.length ≤ 1099511627776 := Nat.le_trans (Nat.le_mul_of_pos_right _ hb0) hb
  have hM : M.length = ys.length * inf.size := by rw [m1.1, hsz]
  have hnews : ∀ j v, M[j]? = some v → w.cell? ((⟨b2, o2, none⟩ : Addr).add j) = some v := fun j v hj => by rw [addr_add]; exact m2 j v hj
  have fin : ∀ (L : List Value), Seg w Γ.I te xs L → (Builtin.append_ #[t, t] ty #[.slice ad xs.length c, .slice (some ⟨b2, o2, none⟩) ys.length c2]).run P w =
        .ok (.slice (some ⟨w.heap.size, 0, none⟩) (xs.length + ys.length) (grownCap w (xs.length + ys.length) c e)) (w.drew.alloc (.cells (L.toArray ++ M.toArray ++ Builtin.zeroCells z.cells (grownCap w (xs.length + ys.length) c e - (xs.length + ys.length))) e)) →
      ∃ Γ' w' cap, (Builtin.append_ #[t, t] ty #[.slice ad xs.length c, .slice (some ⟨b2, o2, none⟩) ys.length c2]).run P w = .ok (.slice (some ⟨w.heap.size, 0, none⟩) (xs.length + ys.length) cap) w' ∧
        EmbH Γ' (H.set k (.live (.arr te (xs ++ ys) true))) w' ∧ Ext Γ H w Γ' (H.set k (.live (.arr te (xs ++ ys) true))) w' ∧ Ra w' Γ' (.sl k (sz te) 0 (xs.length + ys.length) none) (.slice (some ⟨w.heap.size, 0, none⟩) (xs.length + ys.length) cap) := fun L hL hrun => by
    have hcap := grownCap_ge w (xs.length + ys.length) c e
    have hold : ∀ n, n < w.heap.size → (w.drew.alloc (.cells (L.toArray ++ M.toArray ++ Builtin.zeroCells z.cells (grownCap w (xs.length + ys.length) c e - (xs.length + ys.length))) e)).heap[n]? = w.heap[n]? := fun n hn => alloc_old (w := w.drew) hn
    have hI : ∀ b, Γ.I b → (w.drew.alloc (.cells (L.toArray ++ M.toArray ++ Builtin.zeroCells z.cells (grownCap w (xs.length + ys.length) c e - (xs.length + ys.length))) e)).heap[b]? = w.heap[b]? := fun b hb => hold b (em.old b hb)
    obtain ⟨g1, g2⟩ := em.alloc (c := grownCap w (xs.length + ys.length) c e) (B := .arr te (xs ++ ys) true) hk hold (by simp) rfl rfl
      (grown_rep (hL.mono (fun _ h => h) hI) (m1.mono (fun _ h => h) hI) hzs hcap (by
        show (w.drew.alloc _).heap[upd Γ.ν k w.heap.size k]? = _
        rw [upd_self]; exact alloc_new (w := w.drew)) upd_self)
    refine ⟨_, _, _, hrun, g1, g2, Ra_sl.2 ⟨.inr rfl, _, _, rfl, ?_, fun _ => by simp [Cx.new, upd], hcap⟩⟩
    simp [Cx.new, upd]
  cases ad with
  | none =>
    have hc0 := had rfl
    subst hc0
    have hx0 : xs = [] := List.eq_nil_of_length_eq_zero (by omega)
    subst hx0
    have hr := run_append_nil (P := P) w t ty e inf z ht hi hz ⟨b2, o2, none⟩ ys.length c2 M hM hnews hn (by simp at hsmall; omega) (by simp at hb; omega)
    have := fin [] Seg.nil (by simpa using hr)
    simpa using this
  | some x =>
    obtain ⟨xb, xo, xs'⟩ := x
    have : xs' = none := had1 _ rfl
    subst this
    obtain ⟨L, l1, l2⟩ := src_seg h1
    have hr := run_append_grow (P := P) w t ty e inf z ht hi hz ⟨xb, xo, none⟩ xs.length c L (by rw [l1.1, hsz]) (fun j v hj => by rw [addr_add]; exact l2 j v hj) ⟨b2, o2, none⟩ ys.length c2 M hM hnews hg (by omega)
      (growslice_fits hg (by omega))
    exact fin L l1 hr

end
end Go.Ab
