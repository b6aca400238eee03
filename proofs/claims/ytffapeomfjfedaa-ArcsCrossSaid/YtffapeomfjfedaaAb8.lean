/- Soundness, fifth part: loads and stores, new variables. -/
import Derived.Test.YtffapeomfjfedaaAb7
set_option linter.unusedVariables false
set_option linter.unusedSimpArgs false
namespace Go.Ab

theorem homog_leaf {s t : Ty} (h : homog s t = true) (ht : isAgg t = false) : t = s := by
  cases t <;> simp [homog, isAgg] at h ht <;> exact h

section
variable {P : Program} {Γ : Cx} {H : List Hs} {w : World} {S : St} {a : Act}

theorem castD_self {t : Ty} {x : Den t} : castD t t x = some x := by simp [castD]

theorem RepC.one {t : Ty} (h : isAgg t = false) : sz t = 1 := by cases t <;> simp [isAgg] at h <;> rfl

/-- Elements of a mutable block. -/
theorem arr_elem {b : Nat} {te : Ty} {xs : List (Den te)} {opn : Bool} (h : RepB w Γ b (.arr te xs opn)) {i : Nat} {x : Den te} (hx : xs[i]? = some x) :
    ∃ cs, RepC w Γ.I te x cs ∧ CellsAt w (Γ.ν b) (i * sz te) cs := by
  simp only [RepB] at h
  obtain ⟨h3, h4, h⟩ := h
  have hk : Γ.κ b ≠ 0 := fun hk => by
    rcases Nat.lt_or_ge i xs.length with h' | h'
    · omega
    · rw [List.getElem?_eq_none h'] at hx; cases hx
  obtain ⟨c, el, h1, h2, h5⟩ := h hk
  obtain ⟨cs, g1, g2⟩ := h5 i x hx
  refine ⟨cs, g1, fun j v hj => ?_⟩
  simp only [World.cell?, h1, Option.isSome_none, Bool.false_eq_true, if_false]
  exact g2 j v hj

theorem getD_lt {te : Ty} {xs : List (Den te)} {i : Nat} (h : i < xs.length) : xs.getD i (dflt te) = xs[i] := by
  rw [List.getD_eq_getElem?_getD, List.getElem?_eq_getElem h]; rfl

theorem leaf_sound {b : Nat} {te : Ty} {xs : List (Den te)} {opn : Bool} (h : RepB w Γ b (.arr te xs opn)) (h1 : sz te = 1) {i : Nat} (hi : i < xs.length) :
    ∃ cs, RepC w Γ.I te ((castD te te (xs.getD i (dflt te))).getD (dflt te)) cs ∧ CellsAt w (Γ.ν b) i cs := by
  obtain ⟨cs, g1, g2⟩ := arr_elem h (List.getElem?_eq_getElem hi)
  refine ⟨cs, ?_, by simpa [h1] using g2⟩
  have e : xs.getD i (dflt te) = xs[i] := by rw [List.getD_eq_getElem?_getD, List.getElem?_eq_getElem hi]; rfl
  rw [e, castD_self]
  exact g1

theorem unflat_leaf {te : Ty} {xs : List (Den te)} {i : Nat} (h : isAgg te = false) : unflatAt te te xs i = (castD te te (xs.getD i (dflt te))).getD (dflt te) := by
  cases te <;> first | rfl | (simp [isAgg] at h)

theorem unflat_sound' {b : Nat} {te t : Ty} {xs : List (Den te)} {opn : Bool} (h : RepB w Γ b (.arr te xs opn)) {i : Nat} (hh : homog te t = true) (ht : isAgg t = false) (hi : i + sz t ≤ xs.length) :
    ∃ cs, RepC w Γ.I t (unflatAt te t xs i) cs ∧ CellsAt w (Γ.ν b) i cs := by
  have e := homog_leaf hh ht
  subst e
  rw [RepC.one ht] at hi
  rw [unflat_leaf ht]
  exact leaf_sound h (RepC.one ht) hi

theorem unflatAt_sound {b : Nat} {te : Ty} {xs : List (Den te)} {opn : Bool} (h : RepB w Γ b (.arr te xs opn)) (h1 : sz te = 1) : ∀ (t : Ty) (i : Nat), homog te t = true → i + sz t ≤ xs.length →
    ∃ cs, RepC w Γ.I t (unflatAt te t xs i) cs ∧ CellsAt w (Γ.ν b) i cs
  | .unit, i, _, _ => ⟨[], by simp only [RepC], fun j v hj => by simp at hj⟩
  | .prod p q, i, hh, hi => by
    have hh' : homog te p = true ∧ homog te q = true := by simpa only [homog, Bool.and_eq_true] using hh
    have hi' : i + (sz p + sz q) ≤ xs.length := hi
    obtain ⟨c1, g1, g2⟩ := unflatAt_sound h h1 p i hh'.1 (by omega)
    obtain ⟨c2, k1, k2⟩ := unflatAt_sound h h1 q (i + sz p) hh'.2 (by omega)
    have hl := RepC.length _ _ _ g1
    refine ⟨c1 ++ c2, ?_, CellsAt.app.2 ⟨g2, ?_⟩⟩
    · show ∃ d1 d2, c1 ++ c2 = d1 ++ d2 ∧ RepC w Γ.I p (unflatAt te p xs i) d1 ∧ RepC w Γ.I q (unflatAt te q xs (i + sz p)) d2
      exact ⟨c1, c2, rfl, g1, k1⟩
    · rw [hl]; exact k2
  | .int k, i, hh, hi => unflat_sound' h hh rfl hi
  | .bool, i, hh, hi => unflat_sound' h hh rfl hi
  | .slice e', i, hh, hi => unflat_sound' h hh rfl hi
  | .ptr e', i, hh, hi => unflat_sound' h hh rfl hi
  | .optr e', i, hh, hi => unflat_sound' h hh rfl hi
  | .map k v, i, hh, hi => unflat_sound' h hh rfl hi
  | .oth, i, hh, hi => unflat_sound' h hh rfl hi

theorem ofCell_sound {t : Ty} {x : AV} {y : Den t} {v : Value} (h : ofCell t x = some y) (hr : Ra w Γ x v) (ht : isAgg t = false) : RepC w Γ.I t y [v] := by
  unfold ofCell at h
  have key : RepV w Γ.I t y v → RepC w Γ.I t y [v] := fun ⟨cs, hc, hv⟩ => by
    have hl := RepC.length _ _ _ hc
    rw [RepC.one ht] at hl
    match cs, hl, hc, hv with
    | [u], _, hc, hv => simp only [mkV, ht, Bool.false_eq_true, if_false, List.headD_cons] at hv; subst hv; exact hc
  split at h
  · obtain ⟨rfl, rfl⟩ := castD_eq h; exact key (Ra_val.1 hr)
  · rename_i t' xs c
    obtain ⟨e, he⟩ := castD_eq h
    subst e
    subst he
    obtain ⟨ad, h1, h2, h3, h4⟩ := Ra_vsl.1 hr
    exact key (RepV_slice.2 ⟨ad, c, h1, h2, h3, h4⟩)
  · cases h

theorem ofCells_sound : ∀ (t : Ty) (vs : List AV) (cs : List Value) (x : Den t), ofCells t vs = some x → Fa w Γ vs cs → RepC w Γ.I t x cs
  | .unit, vs, cs, x, h, hf => by
    simp only [ofCells] at h
    split at h
    · cases cs with
      | nil => simp only [RepC]
      | cons => exact hf.elim
    · cases h
  | .prod p q, vs, cs, x, h, hf => by
    rw [ofCells] at h
    cases h1 : ofCells p (vs.take (sz p)) with
    | none => rw [h1] at h; cases h
    | some y => cases h2 : ofCells q (vs.drop (sz p)) with
      | none => rw [h1, h2] at h; cases h
      | some z =>
        rw [h1, h2] at h
        cases h
        simp only [RepC]
        exact ⟨_, _, (List.take_append_drop _ _).symm, ofCells_sound p _ _ _ h1 (hf.take _), ofCells_sound q _ _ _ h2 (hf.drop _)⟩
  | .int k, vs, cs, x, h, hf => by
    simp only [ofCells] at h
    split at h
    · match cs, hf with
      | [v], hf => exact ofCell_sound h hf.1 rfl
      | [], hf => exact hf.elim
      | _ :: _ :: _, hf => exact hf.2.elim
    · cases h
  | .bool, vs, cs, x, h, hf => by
    simp only [ofCells] at h
    split at h
    · match cs, hf with
      | [v], hf => exact ofCell_sound h hf.1 rfl
      | [], hf => exact hf.elim
      | _ :: _ :: _, hf => exact hf.2.elim
    · cases h
  | .slice e, vs, cs, x, h, hf => by
    simp only [ofCells] at h
    split at h
    · match cs, hf with
      | [v], hf => exact ofCell_sound h hf.1 rfl
      | [], hf => exact hf.elim
      | _ :: _ :: _, hf => exact hf.2.elim
    · cases h
  | .ptr e, vs, cs, x, h, hf => by
    simp only [ofCells] at h
    split at h
    · match cs, hf with
      | [v], hf => exact ofCell_sound h hf.1 rfl
      | [], hf => exact hf.elim
      | _ :: _ :: _, hf => exact hf.2.elim
    · cases h
  | .optr e, vs, cs, x, h, hf => by
    simp only [ofCells] at h
    split at h
    · match cs, hf with
      | [v], hf => exact ofCell_sound h hf.1 rfl
      | [], hf => exact hf.elim
      | _ :: _ :: _, hf => exact hf.2.elim
    · cases h
  | .map k v, vs, cs, x, h, hf => by
    simp only [ofCells] at h
    split at h
    · match cs, hf with
      | [v], hf => exact ofCell_sound h hf.1 rfl
      | [], hf => exact hf.elim
      | _ :: _ :: _, hf => exact hf.2.elim
    · cases h
  | .oth, vs, cs, x, h, hf => by
    simp only [ofCells] at h
    split at h
    · match cs, hf with
      | [v], hf => exact ofCell_sound h hf.1 rfl
      | [], hf => exact hf.elim
      | _ :: _ :: _, hf => exact hf.2.elim
    · cases h

theorem run_isAgg {t : TypeId} {ty : Ty} (ht : tyS P t = some ty) : (Go.isAgg t).run P w = .ok (isAgg ty) w := by
  obtain ⟨i, d, hi, hu, hs, ha⟩ := tyS_spec ht
  rw [← ha]
  unfold Go.isAgg
  simp only [Sem.run_bind, run_underlying hu, Result.andThen_ok]
  cases d <;> rfl

theorem loadVar_run {t : TypeId} {ty : Ty} (ht : tyS P t = some ty) {b off : Nat} {cs : List Value} (hl : cs.length = sz ty) (hc : CellsAt w b off cs) :
    (loadVar t ⟨b, off, none⟩).run P w = .ok (mkV ty cs) w := by
  obtain ⟨i, d, hi, hu, hs, ha⟩ := tyS_spec ht
  unfold loadVar mkV
  simp only [Sem.run_bind, run_isAgg ht, Result.andThen_ok]
  cases hag : isAgg ty with
  | true =>
    simp only [if_true, Sem.run_bind, sizeOf, typeInfo, run_program, Result.andThen_ok, hi, Sem.run_pure, hs]
    have := run_loadCells_list (P := P) w ⟨b, off, none⟩ cs (fun j v hj => by rw [addr_add]; exact hc j v hj)
    rw [hl] at this
    rw [this]
    rfl
  | false =>
    rw [RepC.one hag] at hl
    match cs, hl, hc with
    | [v], _, hc =>
      simp only [Bool.false_eq_true, if_false, run_load]
      have := hc 0 v rfl
      rw [Nat.add_zero] at this
      rw [this]
      rfl

/-- The values of a run of cells of a block of abstract cells. -/
theorem cells_run {b : Nat} {vs : List AV} (h : RepB w Γ b (.cells vs)) (j n : Nat) : ∃ cs, Fa w Γ ((vs.drop j).take n) cs ∧ CellsAt w (Γ.ν b) j cs := by
  simp only [RepB] at h
  obtain ⟨_, c, el, h1, h2, h3⟩ := h
  have hf : Fa w Γ vs c.toList := Fa.of_get (by simp [h2]) fun i x hx => by
    obtain ⟨v, g1, _, g3⟩ := h3 i x hx
    exact ⟨v, by simpa using g1, g3⟩
  refine ⟨(c.toList.drop j).take n, (hf.drop j).take n, fun k v hk => ?_⟩
  have h4 : (c.toList.drop j)[k]? = some v := by
    rw [List.getElem?_take] at hk
    split at hk
    · exact hk
    · cases hk
  rw [List.getElem?_drop] at h4
  simp only [World.cell?, h1, Option.isSome_none, Bool.false_eq_true, if_false]
  simpa using h4

theorem Ra_of_RepC {t : Ty} {x : Den t} {cs : List Value} (h : RepC w Γ.I t x cs) : Ra w Γ (.val t x) (mkV t cs) := Ra_val.2 ⟨cs, h, rfl⟩

theorem does_load (em : Emb Γ S a w) (sp : Spec) (base : Nat) {tx : Option Ty} {x : Operand} {x' : Od} (hx : cOd tx x = some x') {t : TypeId} {ty : Ty} (ht : tyS P t = some ty)
    {o : Oper} (ho : o.op = .load t x)
    (hob : allP (aeff sp base S.T S.H (.load ty x')).ob) : Does P Γ S.H w (aeff sp base S.T S.H (.load ty x')) ((execOp a.eval o).run P w) := by
  have r1 := cOd_sound em hx
  rw [aeff] at hob ⊢
  obtain ⟨p, hob⟩ := p1_ob hob
  have r1 := peel_sound r1 p
  have hrun : ∀ b off cs, a.eval x = .pointer (some ⟨b, off, none⟩) → cs.length = sz ty → CellsAt w b off cs → (execOp a.eval o).run P w = .ok (.value (mkV ty cs)) w := fun b off cs hv hl hc => by
    simp only [execOp, ho, hv, Instr.loadAt, Instr.sureAddr, Sem.run_bind, Sem.run_pure, Result.andThen_ok, loadVar_run ht hl hc]
  revert hob
  dsimp only [p1]
  generalize (peel (ev S.T x')).2 = X at r1
  intro hob
  cases X with
  | val T y =>
    cases T with
    | ptr T =>
      simp only at hob ⊢
      cases hc : castD T ty y with
      | none => rw [hc] at hob; exact fail_elim hob
      | some z =>
        obtain ⟨rfl, rfl⟩ := castD_eq hc
        obtain ⟨b, off, c, hv, g1, g2, g3⟩ := RepV_ptr.1 (Ra_val.1 r1)
        exact Does.val em.heap (hrun b off c hv (RepC.length _ _ _ g2) g3) rfl (Ra_of_RepC g2)
    | _ => exact fail_elim hob
  | ref b s i o' =>
    obtain ⟨h3, hv⟩ := Ra_ref.1 r1
    simp only at hob ⊢
    cases hg : hget S.H b with
    | none => rw [hg] at hob; exact fail_elim hob
    | some B =>
      have hB := em.heap.blk b B (hget_eq hg)
      rw [hg] at hob
      cases B with
      | cells vs =>
        simp only at hob ⊢
        cases hag : isAgg ty with
        | true =>
          rw [hag] at hob
          simp only [if_true] at hob ⊢
          cases hof : ofCells ty ((vs.drop (i * s + o')).take (sz ty)) with
          | none => rw [hof] at hob; exact fail_elim hob
          | some z =>
            obtain ⟨cs, g1, g2⟩ := cells_run hB (i * s + o') (sz ty)
            have g3 := ofCells_sound ty _ _ z hof g1
            exact Does.val em.heap (hrun _ _ cs hv (RepC.length _ _ _ g3) g2) rfl (Ra_of_RepC g3)
        | false =>
          rw [hag] at hob
          simp only [Bool.false_eq_true, if_false] at hob ⊢
          cases hof : vs[i * s + o']? with
          | none => rw [hof] at hob; exact fail_elim hob
          | some z =>
            simp only [RepB] at hB
            obtain ⟨_, c, el, k1, k2, k3⟩ := hB
            obtain ⟨v, m1, m2, m3⟩ := k3 _ z hof
            have hl : ([v] : List Value).length = sz ty := by rw [RepC.one hag]; rfl
            refine Does.val em.heap (v := v) ?_ rfl m3
            rw [hrun _ _ [v] hv hl ?_]
            · simp [mkV, hag]
            · intro j u hj
              cases j with
              | zero =>
                simp at hj; subst hj
                simp only [World.cell?, k1, Option.isSome_none, Bool.false_eq_true, if_false, Nat.add_zero]
                exact m1
              | succ j => simp at hj
      | arr te xs opn =>
        simp only at hob ⊢
        by_cases hs : s = sz te
        · rw [if_pos hs] at hob ⊢
          have elem : ∀ (hlt : i < xs.length), ∃ cs, RepC w Γ.I te xs[i] cs ∧ CellsAt w (Γ.ν b) (i * sz te) cs := fun hlt => arr_elem hB (List.getElem?_eq_getElem hlt)
          cases hc : (if o' = 0 then castL te ty xs else none) with
          | some ys =>
            rw [hc] at hob
            simp only at hob ⊢
            by_cases h0 : o' = 0
            · rw [if_pos h0] at hc
              obtain ⟨e, he⟩ := castD_eq (t := .slice te) (t' := .slice ty) hc
              cases e
              subst he
              have hlt := allP_one.1 hob
              obtain ⟨cs, g1, g2⟩ := elem hlt
              subst h0
              refine Does.val em.heap (hrun _ _ cs hv (RepC.length _ _ _ g1) (by rw [hs]; exact g2)) rfl ?_
              have := Ra_of_RepC g1
              rw [← getD_lt hlt] at this
              exact this
            · rw [if_neg h0] at hc; cases hc
          | none =>
            rw [hc] at hob
            simp only at hob ⊢
            by_cases hcond : o' = 0 ∧ sz te = 1 ∧ homog te ty = true
            · rw [if_pos hcond] at hob ⊢
              obtain ⟨c1, c2, c3⟩ := hcond
              obtain ⟨cs, g1, g2⟩ := unflatAt_sound hB c2 ty i c3 (allP_one.1 hob)
              refine Does.val em.heap (hrun _ _ cs hv (RepC.length _ _ _ g1) ?_) rfl (Ra_of_RepC g1)
              rw [hs, c1, c2]; simpa using g2
            · rw [if_neg hcond] at hob ⊢
              cases hsub : sub te o' ty (xs.getD i (dflt te)) with
              | none => rw [hsub] at hob; exact fail_elim hob
              | some z =>
                rw [hsub] at hob
                have hlt := allP_one.1 hob
                obtain ⟨cs, g1, g2⟩ := elem hlt
                rw [List.getD_eq_getElem?_getD, List.getElem?_eq_getElem hlt] at hsub
                obtain ⟨k1, k2⟩ := sub_sound te o' xs[i] z cs hsub g1
                refine Does.val em.heap (hrun _ _ _ hv (RepC.length _ _ _ k1) ?_) rfl (Ra_of_RepC k1)
                rw [hs]
                exact g2.part o' (sz ty)
        · rw [if_neg hs] at hob; exact fail_elim hob
      | map k v es => exact fail_elim hob
  | _ => exact fail_elim hob

end
end Go.Ab
