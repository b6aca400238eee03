/- Soundness, twelfth part: append as an operation; aggregates. -/
import Derived.Test.YtffapeomfjfedaaAb14
set_option linter.unusedVariables false
set_option linter.unusedSimpArgs false
namespace Go.Ab

section
variable {P : Program} {Γ : Cx} {H : List Hs} {w : World} {S : St} {a : Act}

theorem vsl_spot {I : Nat → Prop} {te : Ty} {xs : List (Den te)} {ad : Option Addr} (h : ListAt w I te xs ad) : xs = [] ∨ ∀ x, ad = some x → x.spot = none := by
  cases xs with
  | nil => exact .inl rfl
  | cons x xs =>
    obtain ⟨b, off, cs, rfl, _⟩ := h 0 x rfl
    exact .inr fun y hy => by cases hy; rfl

theorem src_take {I : Nat → Prop} {te : Ty} {xs : List (Den te)} {ad : Option Addr} (h : SrcAt w I te xs ad) (n : Nat) : SrcAt w I te (xs.take n) ad := fun i x hx => by
  rw [List.getElem?_take] at hx
  split at hx
  · exact h i x hx
  · cases hx

/-- An append that must grow, from an empty slice at whatever address. -/
theorem append_grow_empty {t ty e : TypeId} {inf : TypeInfo} {z : Value} {te : Ty} (ht : P.underlying t = some (.slice e)) (hte : tyS P e = some te) (hi : P.info? e = some inf) (hz : inf.zero = some z) (hzs : z.cells.size = sz te)
    (em : EmbH Γ H w) {k : Nat} (hk : H[k]? = some .free) {ys : List (Den te)} {ad ad2 : Option Addr} {c c2 : Nat} (h2 : SrcAt w Γ.I te ys ad2) (had : ad = none → c = 0) (hg : c < ys.length)
    (hb : ys.length * inf.bytes ≤ 1099511627776) (hb0 : 0 < inf.bytes) :
    ∃ Γ' w' cap, (Builtin.append_ #[t, t] ty #[.slice ad 0 c, .slice ad2 ys.length c2]).run P w = .ok (.slice (some ⟨w.heap.size, 0, none⟩) ys.length cap) w' ∧
      EmbH Γ' (H.set k (.live (.arr te ys true))) w' ∧ Ext Γ H w Γ' (H.set k (.live (.arr te ys true))) w' ∧ Ra w' Γ' (.sl k (sz te) 0 ys.length none) (.slice (some ⟨w.heap.size, 0, none⟩) ys.length cap) := by
  obtain ⟨inf', d, hi', _, hsz, _⟩ := tyS_spec hte
  rw [hi] at hi'; cases hi'
  have hn : 0 < ys.length := by omega
  obtain ⟨b2, o2, rfl⟩ := src_some h2 hn
  obtain ⟨M, m1, m2⟩ := src_seg h2
  have hsmall : ys.length ≤ 1099511627776 := Nat.le_trans (Nat.le_mul_of_pos_right _ hb0) hb
  have hM : M.length = ys.length * inf.size := by rw [m1.1, hsz]
  have hf := run_firstCells_some (P := P) w.drew inf.size ys.length ⟨b2, o2, none⟩ ys.length c2 M hM (fun j v hj => by rw [addr_add]; simpa using m2 j v hj)
  have hroom : ¬ (ys.length ≤ c) := by omega
  have h63 : ¬ (9223372036854775807 < (ys.length : Int)) := by omega
  have h48 : ¬ (281474976710656 < Builtin.nextslicecap ys.length c * inf.bytes) := by
    have := growslice_fits (need := ys.length) (old := c) (bytes := inf.bytes) hg (by omega)
    omega
  have hrun : (Builtin.append_ #[t, t] ty #[.slice ad 0 c, .slice (some ⟨b2, o2, none⟩) ys.length c2]).run P w =
      .ok (.slice (some ⟨w.heap.size, 0, none⟩) ys.length (grownCap w ys.length c e)) (w.drew.alloc (.cells (([] : List Value).toArray ++ M.toArray ++ Builtin.zeroCells z.cells (grownCap w ys.length c e - (([] : List (Den te)).length + ys.length))) e)) := by
    cases ad with
    | none =>
      have hfn : (Builtin.firstCells inf.size 0 (.slice none 0 c)).run P w.drew = .ok #[] w.drew := rfl
      simp [Builtin.append_, run_underlying ht, sizeOf, typeInfo, zeroValue, hi, hz, Builtin.lenOf, hroom, h63, h48, Question.forced, hf, newRow, grownCap, hfn]
    | some ad =>
      have hfo := run_firstCells_some (P := P) w.drew inf.size 0 ad 0 c [] (by simp) (by simp)
      simp [Builtin.append_, run_underlying ht, sizeOf, typeInfo, zeroValue, hi, hz, Builtin.lenOf, hroom, h63, h48, Question.forced, hf, newRow, grownCap, hfo]
  have hcap := grownCap_ge w ys.length c e
  have hold : ∀ n, n < w.heap.size → (w.drew.alloc (.cells (([] : List Value).toArray ++ M.toArray ++ Builtin.zeroCells z.cells (grownCap w ys.length c e - (([] : List (Den te)).length + ys.length))) e)).heap[n]? = w.heap[n]? := fun n hn => alloc_old (w := w.drew) hn
  have hI : ∀ b, Γ.I b → (w.drew.alloc (.cells (([] : List Value).toArray ++ M.toArray ++ Builtin.zeroCells z.cells (grownCap w ys.length c e - (([] : List (Den te)).length + ys.length))) e)).heap[b]? = w.heap[b]? := fun b hb => hold b (em.old b hb)
  obtain ⟨g1, g2⟩ := em.alloc (c := grownCap w ys.length c e) (B := .arr te ([] ++ ys) true) hk hold (by simp) rfl rfl
    (grown_rep Seg.nil (m1.mono (fun _ h => h) hI) hzs (by simpa using hcap) (by
      show (w.drew.alloc _).heap[upd Γ.ν k w.heap.size k]? = _
      rw [upd_self]; exact alloc_new (w := w.drew)) upd_self)
  refine ⟨_, _, _, hrun, g1, g2, Ra_sl.2 ⟨.inr rfl, _, _, rfl, ?_, fun _ => by simp [Cx.new, upd], hcap⟩⟩
  simp [Cx.new, upd]

/-- Both together. -/
theorem append_grow' {t ty e : TypeId} {inf : TypeInfo} {z : Value} {te : Ty} (ht : P.underlying t = some (.slice e)) (hte : tyS P e = some te) (hi : P.info? e = some inf) (hz : inf.zero = some z) (hzs : z.cells.size = sz te)
    (em : EmbH Γ H w) {k : Nat} (hk : H[k]? = some .free) {xs ys : List (Den te)} {ad ad2 : Option Addr} {c c2 : Nat} (h1 : SrcAt w Γ.I te xs ad) (h2 : SrcAt w Γ.I te ys ad2) (had : ad = none → c = 0) (hle : xs.length ≤ c) (hg : c < xs.length + ys.length)
    (hb : (xs.length + ys.length) * inf.bytes ≤ 1099511627776) (hb0 : 0 < inf.bytes) :
    ∃ Γ' w' cap, (Builtin.append_ #[t, t] ty #[.slice ad xs.length c, .slice ad2 ys.length c2]).run P w = .ok (.slice (some ⟨w.heap.size, 0, none⟩) (xs.length + ys.length) cap) w' ∧
      EmbH Γ' (H.set k (.live (.arr te (xs ++ ys) true))) w' ∧ Ext Γ H w Γ' (H.set k (.live (.arr te (xs ++ ys) true))) w' ∧ Ra w' Γ' (.sl k (sz te) 0 (xs.length + ys.length) none) (.slice (some ⟨w.heap.size, 0, none⟩) (xs.length + ys.length) cap) := by
  cases xs with
  | nil =>
    have := append_grow_empty (ty := ty) ht hte hi hz hzs em hk (c2 := c2) h2 had (by simpa using hg) (by simpa using hb) hb0
    simpa using this
  | cons x xs =>
    refine append_grow ht hte hi hz hzs em hk h1 h2 had hle hg (fun y hy => ?_) hb hb0
    obtain ⟨b, off, e⟩ := src_some h1 (by simp)
    rw [e] at hy; cases hy; rfl

theorem does_append (em : Emb Γ S a w) (sp : Spec) (base k : Nat) {tx ty : Option Ty} {x y : Operand} {x' y' : Od} (hx : cOd tx x = some x') (hy : cOd ty y = some y') {t e : TypeId} {te : Ty} {inf : TypeInfo} {z : Value}
    (ht : P.underlying t = some (.slice e)) (hte : tyS P e = some te) (hi : P.info? e = some inf) (hz : inf.zero = some z) (hzs : z.cells.size = sz te) (hb0 : 0 < inf.bytes) {o : Oper}
    (ho : (execOp a.eval o).run P w = ((Builtin.append_ #[t, t] o.type #[a.eval x, a.eval y]).run P w).andThen fun v w' => .ok (.value v) w')
    (hob : allP (aeff sp base S.T S.H (.append k te inf.bytes x' y')).ob) : Does P Γ S.H w (aeff sp base S.T S.H (.append k te inf.bytes x' y')) ((execOp a.eval o).run P w) := by
  obtain ⟨inf', d, hi', _, hsz, _⟩ := tyS_spec hte
  rw [hi] at hi'; cases hi'
  have r1 := cOd_sound em hx
  have r2 := cOd_sound em hy
  rw [aeff] at hob ⊢
  have hob0 := p1_ob hob
  clear hob
  obtain ⟨p, hob⟩ := hob0
  have r2 := peel_sound r2 p
  revert hob
  dsimp only [p1]
  generalize (peel (ev S.T y')).2 = Y at r2
  cases hrv : rvL S.H te Y with
  | none => exact fun hob => fail_elim hob
  | some u =>
    obtain ⟨q, ys⟩ := u
    simp only
    intro hob
    have hob0 := allP_app.1 hob
    clear hob
    obtain ⟨p2, hob⟩ := hob0
    have r1 := peel_sound r1 p2
    revert hob
    generalize (peel (ev S.T x')).2 = X at r1
    intro hob
    cases X with
    | vsl T xs c =>
      simp only at hob ⊢
      cases hc : castL T te xs with
      | none => rw [hc] at hob; exact fail_elim hob
      | some zs =>
        rw [hc] at hob
        simp only at hob ⊢
        obtain ⟨e1, e2⟩ := castL_eq hc
        subst e1
        subst e2
        split at hob
        · rename_i hf
          rw [if_pos hf]
          have hk := isFree_eq hf
          obtain ⟨q1, q2⟩ := allP_app.1 hob
          obtain ⟨q2, q3⟩ := allP_cons.1 q2
          have q3 := allP_one.1 q3
          obtain ⟨ad2, c2, hv2, hsrc⟩ := rvL_sound em.heap hrv q1 r2
          obtain ⟨ad, hv1, hle, had, hat⟩ := Ra_vsl.1 r1
          obtain ⟨Γ', w', cap, hr, g1, g2, g3⟩ := append_grow' (ty := o.type) ht hte hi hz hzs em.heap hk (c2 := c2) hat.src hsrc had hle q2 q3 hb0
          refine Does.new (v := .slice (some ⟨w.heap.size, 0, none⟩) (zs.length + ys.length) cap) ?_ rfl ⟨g1, g2⟩ g3
          rw [ho, hv1, hv2, hr]; rfl
        · exact fail_elim hob
    | sl b s i len c =>
      simp only at hob ⊢
      cases hg : hget S.H b with
      | none => rw [hg] at hob; exact fail_elim hob
      | some B =>
        have hH := hget_eq hg
        have hB := em.heap.blk b B hH
        rw [hg] at hob
        cases B with
        | arr T xs opn =>
          simp only at hob ⊢
          cases hc : castL T te xs with
          | none => rw [hc] at hob; exact fail_elim hob
          | some zs =>
            rw [hc] at hob
            simp only at hob ⊢
            obtain ⟨e1, e2⟩ := castL_eq hc
            subst e1
            subst e2
            by_cases hcond : isFree S.H (base + k) = true ∧ s = sz T
            · rw [if_pos hcond] at hob ⊢
              obtain ⟨hf, hs⟩ := hcond
              have hk := isFree_eq hf
              have hbk : b ≠ base + k := fun h => by subst h; rw [hH] at hk; cases hk
              obtain ⟨hA, ad, cap, hv1, hcap, hoff, hle⟩ := Ra_sl.1 r1
              cases c with
              | none =>
                simp only at hob ⊢
                by_cases hio : i = 0 ∧ opn = true
                · rw [if_pos hio] at hob ⊢
                  obtain ⟨rfl, rfl⟩ := hio
                  obtain ⟨q1, q2⟩ := allP_app.1 hob
                  obtain ⟨q2, q3⟩ := allP_cons.1 q2
                  have q3 := allP_one.1 q3
                  obtain ⟨ad2, c2, hv2, hsrc⟩ := rvL_sound em.heap hrv q1 r2
                  simp only [Option.getD_none, Nat.sub_zero] at hcap
                  subst hcap
                  have hlen : (zs.take len).length = len := by rw [List.length_take]; omega
                  have hsrcX : SrcAt w Γ.I T (zs.take len) ad := by
                    have := arr_src (len := len) (i := 0) (ad := ad) hB (fun h0 => by rw [hoff (by omega)]; simp)
                    simpa using this
                  have hadn : ad = none → Γ.κ b = 0 := fun hn => by
                    apply Classical.byContradiction
                    intro hc
                    rw [hoff hc] at hn; cases hn
                  by_cases hroom : len + ys.length ≤ Γ.κ b
                  · -- in its place
                    have hB' := hB
                    simp only [RepB] at hB'
                    obtain ⟨k3, k4, hB'⟩ := hB'
                    by_cases h0 : ys.length = 0
                    · have hys : ys = [] := List.eq_nil_of_length_eq_zero h0
                      subst hys
                      have hr := append_zero (P := P) (w := w) (ty := o.type) ht hi (ad := ad) (ad2 := ad2) (sLen := len) (sCap := Γ.κ b) (c := c2) hle
                      have hmv := em.heap.move (w' := w) (B' := .arr T (zs.take len ++ []) true) hH hk (fun _ _ => rfl) (Nat.le_refl _) rfl rfl (by
                        rw [List.append_nil]
                        simp only [RepB, Cx.new, upd_self]
                        refine ⟨by omega, by simp, fun hk0 => ?_⟩
                        obtain ⟨cur, el, k1, k2, k5⟩ := hB' hk0
                        refine ⟨cur, el, k1, k2, fun j x hx => ?_⟩
                        rw [List.getElem?_take] at hx
                        split at hx
                        · exact k5 j x hx
                        · cases hx)
                      refine Does.new (v := .slice ad len (Γ.κ b)) ?_ rfl hmv ?_
                      · rw [ho, hv1, hv2]
                        show ((Builtin.append_ #[t, t] o.type #[.slice ad len (Γ.κ b), .slice ad2 0 c2]).run P w).andThen _ = _
                        rw [hr]; rfl
                      · exact Ra_sl.2 ⟨.inr rfl, ad, Γ.κ b, rfl, by simp [Cx.new, upd], fun h => by rw [hoff h]; simp [Cx.new, upd], by simpa using hle⟩
                    · obtain ⟨b2, o2, rfl⟩ := src_some hsrc (by omega)
                      obtain ⟨M, m1, m2⟩ := src_seg hsrc
                      have hk0 : Γ.κ b ≠ 0 := by omega
                      have had0 := hoff hk0
                      rw [Nat.zero_mul] at had0
                      subst had0
                      obtain ⟨cur, el, k1, k2, k5⟩ := hB' hk0
                      have hfit : 0 + len * inf.size + M.length ≤ cur.size := by
                        rw [m1.1, hsz, k2, Nat.zero_add, ← Nat.add_mul]
                        exact Nat.mul_le_mul_right _ hroom
                      have hr := append_place (P := P) (ty := o.type) ht hi k1 (b := b2) (o2 := o2) (m := ys.length) (c := c2) (by rw [m1.1, hsz]) m2 m1.oneCell hroom hfit
                      have hI : ∀ n, Γ.I n → (w.setRow (Γ.ν b) (rowSet cur (0 + len * inf.size) M)).heap[n]? = w.heap[n]? := fun n hn => setRow_old fun h => em.heap.imm b ⟨_, hH⟩ hk0 (h ▸ hn)
                      have hmv := em.heap.move (w' := w.setRow (Γ.ν b) (rowSet cur (0 + len * inf.size) M)) (B' := .arr T (zs.take len ++ ys) true) hH hk (fun n hn => setRow_old (hn hk0)) (by simp) rfl rfl (by
                        have hrow := setRow_heap w (Γ.ν b) cur (rowSet cur (0 + len * inf.size) M) el _ k1
                        simp only [RepB, Cx.new, upd_self]
                        refine ⟨by rw [List.length_append, hlen]; exact hroom, by simp, fun _ => ⟨_, el, hrow, by rw [rowSet_size hfit]; exact k2, fun j x hx => ?_⟩⟩
                        rw [hsz, Nat.zero_add] at hfit ⊢
                        by_cases hj : j < len
                        · rw [List.getElem?_append_left (by omega), List.getElem?_take, if_pos hj] at hx
                          obtain ⟨cs, n1, n2⟩ := k5 j x hx
                          refine ⟨cs, RepC.mono (fun _ h => h) (by simpa [hsz] using hI) T x cs n1, fun l v hl => ?_⟩
                          have hl2 := RepC.length _ _ _ n1
                          have hlt : l < cs.length := by
                            rcases Nat.lt_or_ge l cs.length with h | h
                            · exact h
                            · rw [List.getElem?_eq_none h] at hl; cases hl
                          have : (j + 1) * sz T ≤ len * sz T := Nat.mul_le_mul_right _ hj
                          rw [Nat.succ_mul] at this
                          rw [rowSet_get hfit, if_neg (by omega)]
                          exact n2 l v hl
                        · rw [List.getElem?_append_right (by omega), hlen] at hx
                          have hseg := m1.2 _ x hx
                          refine ⟨_, RepC.mono (fun _ h => h) (by simpa [hsz] using hI) T x _ hseg, fun l v hl => ?_⟩
                          rw [List.getElem?_take] at hl
                          split at hl
                          · rename_i hlt
                            rw [List.getElem?_drop] at hl
                            have hmul : j * sz T = len * sz T + (j - len) * sz T := by rw [← Nat.add_mul]; congr 1; omega
                            have hbound : (j - len) * sz T + l < M.length := by
                              rcases Nat.lt_or_ge ((j - len) * sz T + l) M.length with h | h
                              · exact h
                              · rw [List.getElem?_eq_none h] at hl; cases hl
                            rw [rowSet_get hfit, if_pos (by omega), show j * sz T + l - len * sz T = (j - len) * sz T + l by omega]
                            exact hl
                          · cases hl)
                      refine Does.new (v := .slice (some ⟨Γ.ν b, 0, none⟩) (len + ys.length) (Γ.κ b)) ?_ rfl hmv ?_
                      · rw [ho, hv1, hv2, hr]; rfl
                      · exact Ra_sl.2 ⟨.inr rfl, _, Γ.κ b, rfl, by simp [Cx.new, upd], fun h => by simp [Cx.new, upd], hroom⟩
                  · -- it grows
                    obtain ⟨kill1, kill2⟩ := em.heap.kill hH
                    have hk' : (S.H.set b .dead)[base + k]? = some .free := by rw [List.getElem?_set_ne hbk]; exact hk
                    obtain ⟨Γ', w', cap', hr, g1, g2, g3⟩ := append_grow' (ty := o.type) ht hte hi hz hzs kill1 hk' (c2 := c2) hsrcX hsrc hadn (by rw [hlen]; exact hle) (by rw [hlen]; omega) (by rw [hlen]; exact q3) hb0
                    rw [hlen] at hr g3
                    refine Does.new (v := .slice (some ⟨w.heap.size, 0, none⟩) (len + ys.length) cap') ?_ rfl ⟨g1, kill2.trans g2⟩ g3
                    rw [ho, hv1, hv2, hr]; rfl
                · rw [if_neg hio] at hob; exact fail_elim hob
              | some c =>
                simp only at hob ⊢
                obtain ⟨q1, q2⟩ := allP_app.1 hob
                obtain ⟨q2, q3⟩ := allP_cons.1 q2
                obtain ⟨q3, q4⟩ := allP_cons.1 q3
                have q4 := allP_one.1 q4
                obtain ⟨ad2, c2, hv2, hsrc⟩ := rvL_sound em.heap hrv q1 r2
                simp only [Option.getD_some] at hcap
                subst hcap
                have hlen : ((zs.drop i).take len).length = len := by rw [List.length_take, List.length_drop]; omega
                have hsrcX : SrcAt w Γ.I T ((zs.drop i).take len) ad := arr_src hB (fun h0 => by rw [hoff (by omega), hs])
                obtain ⟨Γ', w', cap', hr, g1, g2, g3⟩ := append_grow' (ty := o.type) ht hte hi hz hzs em.heap hk (c2 := c2) hsrcX hsrc (fun hn => by apply Classical.byContradiction; intro hc; rw [hoff hc] at hn; cases hn) (by rw [hlen]; exact hle) (by rw [hlen]; exact q3) (by rw [hlen]; exact q4) hb0
                rw [hlen] at hr g3
                refine Does.new (v := .slice (some ⟨w.heap.size, 0, none⟩) (len + ys.length) cap') ?_ rfl ⟨g1, g2⟩ g3
                rw [ho, hv1, hv2, hr]; rfl
            · rw [if_neg hcond] at hob; exact fail_elim hob
        | _ => exact fail_elim hob
    | _ => exact fail_elim hob

end
end Go.Ab
