/- Regions whose order is drawn: soundness. -/
import Derived.Test.YtffapeomfjfedaaAb21
set_option linter.unusedVariables false
set_option linter.unusedSimpArgs false
namespace Go.Ab

/-- The relation travels to a state that agrees. -/
theorem GRel.move {sp : Spec} (hsp : SpecFrame sp) {base : Nat} {S S' : St} {o : AOp} {e : Ef} (h : GRel sp base S o e) (hrd : e.rd = (aeff sp base S.T S.H o.op).rd) (hT : Eqs S.T S'.T o.use) (hr : ∀ b ∈ e.rd, S'.H[b]? = S.H[b]?) (hu : ∀ p ∈ e.up, S'.H[p.1]? = S.H[p.1]?) : GRel sp base S' o e := by
  obtain ⟨dst, op, g⟩ := o
  have hT1 : aeff sp base S'.T S'.H op = aeff sp base S.T S'.H op := (aeff_use hT.left).symm
  cases g with
  | none =>
    obtain ⟨h1, h2, h3⟩ := h
    obtain ⟨g1, g2, g3⟩ := aeff_frame hsp h1 ⟨by rw [← hrd]; exact hr, by rw [← h3]; exact hu⟩
    simp only [GRel, hT1]
    exact ⟨by rw [g1]; exact h1, h2.trans g2.symm, h3.trans g3.symm⟩
  | some dw =>
    obtain ⟨d, want⟩ := dw
    have h2 := hT.right d (by simp)
    obtain ⟨p, x, y, k1, k2, k3, k4, k5⟩ := h
    simp only [GRel, hT1]
    refine ⟨p, x, y, by rw [← h2]; exact k1, k2, k3, k4, fun hc => ?_⟩
    obtain ⟨m1, m2, m3⟩ := k5 hc
    obtain ⟨g1, g2, g3⟩ := aeff_frame hsp m2 ⟨by rw [← hrd]; exact hr, by rw [m1]; intro p hp; cases hp⟩
    exact ⟨by rw [g3]; exact m1, by rw [g1]; exact m2, m3.trans g2.symm⟩

theorem geff_rd {sp : Spec} {base : Nat} {S : St} {o : AOp} (hob : allP (geff sp base S.T S.H o).ob) : (geff sp base S.T S.H o).rd = (aeff sp base S.T S.H o.op).rd := by
  obtain ⟨dst, op, g⟩ := o
  cases g with
  | none => rfl
  | some dw =>
    obtain ⟨d, want⟩ := dw
    simp only [geff] at hob ⊢
    cases hp : peel (S.T.getD d .undef) with
    | mk p y =>
      rw [hp] at hob
      cases y with
      | val t x =>
        cases t with
        | bool =>
          simp only at hob ⊢
          cases hup : (aeff sp base S.T S.H op).up with
          | cons _ _ => rw [hup] at hob; exact fail_elim hob
          | nil => rfl
        | _ => exact fail_elim hob
      | _ => exact fail_elim hob

/-! ### What the order of the text records -/
noncomputable def recL (sp : Spec) (base : Nat) : List AOp → St → List Rec
  | [], _ => []
  | o :: os, S => (o, geff sp base S.T S.H o) :: recL sp base os (S.step o.dst (geff sp base S.T S.H o))

section
variable {sp : Spec} {base : Nat}

theorem recL_length : ∀ {l : List AOp} {S : St}, (recL sp base l S).length = l.length
  | [], _ => rfl
  | o :: l, S => by simp [recL, recL_length (l := l)]

theorem foldK_true {X E : Type} {act : E → X → X} : ∀ (es : List E) (i : Nat) (x : X), foldK act es i (fun _ => true) x = es.foldl (fun x e => act e x) x
  | [], _, _ => rfl
  | e :: es, i, x => by simp [foldK, foldK_true es]

theorem runL_S : ∀ {l : List AOp} {i : Nat} {S : St}, (runL sp base i l S).S = (recL sp base l S).foldl (fun S (p : Rec) => S.step p.1.dst p.2) S
  | [], _, _ => rfl
  | o :: l, i, S => by rw [runL_cons]; simp only [recL, List.foldl_cons]; exact runL_S

theorem runL_inf : ∀ {l : List AOp} {i : Nat} {S : St} (j : Nat), (runL sp base i l S).inf[j]? = ((recL sp base l S)[j]?).map (ifo (i + j))
  | [], i, S, j => by simp [runL, recL]
  | o :: l, i, S, 0 => by rw [runL_cons]; simp [recL, ifo]
  | o :: l, i, S, j + 1 => by
    rw [runL_cons]
    simp only [recL, List.getElem?_cons_succ]
    rw [runL_inf j, show i + 1 + j = i + (j + 1) by omega]

theorem runL_ob : ∀ {l : List AOp} {i : Nat} {S : St}, allP (runL sp base i l S).ob → ∀ (j : Nat) (p : Rec), (recL sp base l S)[j]? = some p → allP p.2.ob
  | [], _, _, _, j, p, h => by simp [recL] at h
  | o :: l, i, S, hob, 0, p, h => by
    rw [runL_cons] at hob
    simp only [recL, List.getElem?_cons_zero, Option.some.injEq] at h
    subst h
    exact (allP_app.1 hob).1
  | o :: l, i, S, hob, j + 1, p, h => by
    rw [runL_cons] at hob
    simp only [recL, List.getElem?_cons_succ] at h
    exact runL_ob (allP_app.1 hob).2 j p h

/-- Each effect was reckoned in the state before it. -/
theorem recL_get : ∀ {l : List AOp} {S : St} (j : Nat) (p : Rec) (i : Nat), (recL sp base l S)[j]? = some p →
    l[j]? = some p.1 ∧ p.2 = geff sp base (foldK (fun (p : Rec) S => S.step p.1.dst p.2) (recL sp base l S) i (fun k => decide (k < i + j)) S).T (foldK (fun (p : Rec) S => S.step p.1.dst p.2) (recL sp base l S) i (fun k => decide (k < i + j)) S).H p.1
  | [], _, _, _, _, h => by simp [recL] at h
  | o :: l, S, 0, p, i, h => by
    simp only [recL, List.getElem?_cons_zero, Option.some.injEq] at h
    subst h
    refine ⟨rfl, ?_⟩
    rw [foldK_id _ _ _ fun k e _ hl => by simp at hl; omega]
  | o :: l, S, j + 1, p, i, h => by
    simp only [recL, List.getElem?_cons_succ] at h
    obtain ⟨h1, h2⟩ := recL_get j p (i + 1) h
    refine ⟨by simpa using h1, ?_⟩
    rw [h2]
    simp only [recL, foldK]
    have : decide (i < i + (j + 1)) = true := by simp
    rw [this]
    simp only [if_true]
    have he : (fun k => decide (k < i + 1 + j)) = fun k => decide (k < i + (j + 1)) := by funext k; congr 1; simp only [eq_iff_iff]; omega
    rw [he]

end

/-! ### Edges -/
theorem maskOf_self {acc : List Nat} : ∀ {es : List Edge} {e : Edge}, e ∈ es → Region.binds .any e = true → (maskOf acc es).testBit e.on = true
  | [], _, h, _ => by cases h
  | x :: es, e, h, hb => by
    simp only [maskOf]
    rcases List.mem_cons.1 h with rfl | h
    · rw [if_pos hb]
      simp [Nat.testBit_or, Nat.testBit_two_pow_self]
    · have := maskOf_self (acc := acc) h hb
      split
      · simp [Nat.testBit_or, this]
      · exact this

theorem maskOf_spec {acc : List Nat} {k : Nat} : ∀ {es : List Edge}, (maskOf acc es).testBit k = true → ∃ e ∈ es, Region.binds .any e = true ∧ (k = e.on ∨ (acc.getD e.on 0).testBit k = true)
  | [], h => by simp [maskOf] at h
  | x :: es, h => by
    simp only [maskOf] at h
    split at h
    · rename_i hb
      simp only [Nat.testBit_or, Bool.or_eq_true] at h
      rcases h with (h | h) | h
      · refine ⟨x, List.mem_cons_self .., hb, .inl ?_⟩
        rw [Nat.testBit_two_pow] at h
        exact (of_decide_eq_true h).symm
      · exact ⟨x, List.mem_cons_self .., hb, .inr h⟩
      · obtain ⟨e, h1, h2⟩ := maskOf_spec h
        exact ⟨e, List.mem_cons_of_mem _ h1, h2⟩
    · obtain ⟨e, h1, h2⟩ := maskOf_spec h
      exact ⟨e, List.mem_cons_of_mem _ h1, h2⟩

theorem masks_length : ∀ {os : List Oper} {acc : List Nat}, (masks os acc).length = acc.length + os.length
  | [], acc => by simp [masks]
  | o :: os, acc => by simp only [masks]; rw [masks_length]; simp; omega

theorem masks_pre : ∀ {os : List Oper} {acc : List Nat} {j : Nat}, j < acc.length → (masks os acc)[j]? = acc[j]?
  | [], _, _, _ => rfl
  | o :: os, acc, j, h => by
    simp only [masks]
    rw [masks_pre (by simp; omega), List.getElem?_append_left h]

theorem masks_get : ∀ {os : List Oper} {acc : List Nat} {i : Nat} {o : Oper}, os[i]? = some o → (masks os acc)[acc.length + i]? = some (maskOf ((masks os acc).take (acc.length + i)) o.after.toList)
  | [], _, _, _, h => by simp at h
  | x :: os, acc, 0, o, h => by
    simp only [List.getElem?_cons_zero, Option.some.injEq] at h
    subst h
    have ht : (masks (x :: os) acc).take acc.length = acc := by
      apply List.ext_getElem?
      intro j
      rw [List.getElem?_take]
      split
      · exact masks_pre ‹_›
      · rw [List.getElem?_eq_none (by omega)]
    rw [Nat.add_zero, ht]
    simp only [masks]
    rw [masks_pre (by simp)]
    simp
  | x :: os, acc, i + 1, o, h => by
    simp only [masks]
    have := masks_get (os := os) (acc := acc ++ [maskOf acc x.after.toList]) (i := i) (o := o) (by simpa using h)
    simp only [List.length_append, List.length_cons, List.length_nil, Nat.zero_add] at this
    rw [show acc.length + (i + 1) = acc.length + 1 + i by omega]
    exact this

end Go.Ab
