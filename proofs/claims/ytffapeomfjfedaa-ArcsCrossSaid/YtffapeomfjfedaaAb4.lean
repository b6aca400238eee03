/- Soundness, first part: values. -/
import Derived.Test.YtffapeomfjfedaaAb3
set_option linter.unusedVariables false
namespace Go.Ab

def allP (l : List Prop) : Prop := ∀ p ∈ l, p

theorem allP_nil : allP [] := fun _ h => by cases h
theorem allP_cons {p : Prop} {l : List Prop} : allP (p :: l) ↔ p ∧ allP l := List.forall_mem_cons
theorem allP_app {l m : List Prop} : allP (l ++ m) ↔ allP l ∧ allP m := by
  simp only [allP, List.mem_append]
  exact ⟨fun h => ⟨fun p hp => h p (.inl hp), fun p hp => h p (.inr hp)⟩, fun h p hp => hp.elim (h.1 p) (h.2 p)⟩
theorem allP_one {p : Prop} : allP [p] ↔ p := by rw [allP_cons]; exact ⟨fun h => h.1, fun h => ⟨h, allP_nil⟩⟩
theorem andL_iff {l : List Prop} {X : Prop} : andL l X ↔ allP l ∧ X := by
  induction l with
  | nil => simp [andL, allP]
  | cons p l ih => simp only [andL, ih, allP_cons, and_assoc]
theorem andAll_iff {l : List Prop} : andAll l ↔ allP l := by
  induction l with
  | nil => simp [andAll, allP]
  | cons p l ih =>
    cases l with
    | nil => simp only [andAll, allP_one]
    | cons q l => simp only [andAll, ih, allP_cons]
theorem impP_iff {c : Prop} {l : List Prop} : allP (impP c l) ↔ (c → allP l) := by
  cases l with
  | nil => simp [impP, allP]
  | cons p l => simp only [impP, allP_one, andAll_iff]

theorem castD_eq {t t' : Ty} {x : Den t} {y : Den t'} (h : castD t t' x = some y) : ∃ e : t = t', y = e ▸ x := by
  unfold castD at h
  split at h
  · rename_i e; cases h; exact ⟨e, rfl⟩
  · cases h

theorem castL_eq {t t' : Ty} {x : List (Den t)} {y : List (Den t')} (h : castL t t' x = some y) : ∃ e : t = t', y = e ▸ x := by
  obtain ⟨e, he⟩ := castD_eq (t := .slice t) (t' := .slice t') h
  cases e
  exact ⟨rfl, he⟩

theorem peel_sound {w : World} {Γ : Cx} : ∀ {x : AV} {v : Value}, Ra w Γ x v → allP (peel x).1 → Ra w Γ (peel x).2 v
  | .gd b x, v, h, hp => by
    simp only [peel, allP_cons] at hp ⊢
    simp only [Ra, Rp] at h
    exact peel_sound (h.2 hp.1) hp.2
  | .undef, _, h, _ => h
  | .val .., _, h, _ => h
  | .ref .., _, h, _ => h
  | .sl .., _, h, _ => h
  | .vsl .., _, h, _ => h
  | .mref .., _, h, _ => h
  | .fn .., _, h, _ => h
  | .tup .., _, h, _ => h
  | .agg .., _, h, _ => h
  | .nil, _, h, _ => h
  | .cons .., _, h, _ => h

section vals
variable {w : World} {Γ : Cx}

theorem Ra_val {t : Ty} {x : Den t} {v : Value} : Ra w Γ (.val t x) v ↔ RepV w Γ.I t x v := by
  simp only [Ra, Rp]
  exact ⟨fun ⟨u, e, h⟩ => by cases e; exact h, fun h => ⟨v, rfl, h⟩⟩

theorem Ra_int {k : IntKind} {n : Den (.int k)} {v : Value} : Ra w Γ (.val (.int k) n) v ↔ v = .int k n := by
  rw [Ra_val]
  simp only [RepV, RepC]
  exact ⟨fun ⟨cs, e, h⟩ => by subst e; exact h, fun h => ⟨_, rfl, h⟩⟩

theorem Ra_bool {b : Den .bool} {v : Value} : Ra w Γ (.val .bool b) v ↔ v = .bool b := by
  rw [Ra_val]
  simp only [RepV, RepC]
  exact ⟨fun ⟨cs, e, h⟩ => by subst e; exact h, fun h => ⟨_, rfl, h⟩⟩

theorem asInt_sound {x : AV} {k : IntKind} {n : Int} {v : Value} (h : asInt x = some (k, n)) (hr : Ra w Γ x v) : v = .int k n := by
  unfold asInt at h
  split at h
  · cases h; exact Ra_int.1 hr
  · cases h

theorem asBool_sound {x : AV} {b : Bool} {v : Value} (h : asBool x = some b) (hr : Ra w Γ x v) : v = .bool b := by
  unfold asBool at h
  split at h
  · cases h; exact Ra_bool.1 hr
  · cases h

theorem asD_sound {t : Ty} {x : AV} {y : Den t} {v : Value} (h : asD t x = some y) (hr : Ra w Γ x v) : RepV w Γ.I t y v := by
  unfold asD at h
  split at h
  · obtain ⟨rfl, rfl⟩ := castD_eq h; exact Ra_val.1 hr
  · cases h

/-- The elements of a list lie in memory that nobody writes. -/
def ListAt (w : World) (I : Nat → Prop) (t : Ty) (xs : List (Den t)) (ad : Option Addr) : Prop :=
  ∀ (i : Nat) (x : Den t), xs[i]? = some x → ∃ b off cs, ad = some ⟨b, off, none⟩ ∧ I b ∧ RepC w I t x cs ∧ CellsAt w b (off + i * sz t) cs

theorem RepV_slice {t : Ty} {xs : List (Den t)} {v : Value} {I : Nat → Prop} :
    RepV w I (.slice t) xs v ↔ ∃ ad cap, v = .slice ad xs.length cap ∧ xs.length ≤ cap ∧ (ad = none → cap = 0) ∧ ListAt w I t xs ad := by
  simp only [RepV, RepC, ListAt]
  constructor
  · rintro ⟨cs, ⟨ad, cap, rfl, h1, h2, h3⟩, rfl⟩
    exact ⟨ad, cap, rfl, h1, h2, h3⟩
  · rintro ⟨ad, cap, rfl, h1, h2, h3⟩
    exact ⟨_, ⟨ad, cap, rfl, h1, h2, h3⟩, rfl⟩

theorem Ra_vsl {t : Ty} {xs : List (Den t)} {c : Nat} {v : Value} :
    Ra w Γ (.vsl t xs c) v ↔ ∃ ad, v = .slice ad xs.length c ∧ xs.length ≤ c ∧ (ad = none → c = 0) ∧ ListAt w Γ.I t xs ad := by
  simp only [Ra, Rp, ListAt, List.cons.injEq, and_true]

theorem asList_sound {t : Ty} {x : AV} {ys : List (Den t)} {v : Value} (h : asList t x = some ys) (hr : Ra w Γ x v) :
    ∃ ad cap, v = .slice ad ys.length cap ∧ ys.length ≤ cap ∧ (ad = none → cap = 0) ∧ ListAt w Γ.I t ys ad := by
  match x, h, hr with
  | .val t' xs, h, hr =>
    obtain ⟨e, he⟩ := castD_eq (t' := .slice t) h
    subst e
    subst he
    exact RepV_slice.1 (Ra_val.1 hr)
  | .vsl t' xs c, h, hr =>
    obtain ⟨e, he⟩ := castD_eq (t := .slice t') (t' := .slice t) h
    cases e
    subst he
    obtain ⟨ad, h1, h2, h3, h4⟩ := Ra_vsl.1 hr
    exact ⟨ad, c, h1, h2, h3, h4⟩

theorem RepV_ptr {t : Ty} {x : Den t} {v : Value} {I : Nat → Prop} :
    RepV w I (.ptr t) x v ↔ ∃ b off c, v = .pointer (some ⟨b, off, none⟩) ∧ I b ∧ RepC w I t x c ∧ CellsAt w b off c := by
  simp only [RepV, RepC]
  constructor
  · rintro ⟨cs, ⟨b, off, c, rfl, h1, h2, h3⟩, rfl⟩
    exact ⟨b, off, c, rfl, h1, h2, h3⟩
  · rintro ⟨b, off, c, rfl, h1, h2, h3⟩
    exact ⟨_, ⟨b, off, c, rfl, h1, h2, h3⟩, rfl⟩

theorem CellsAt.app {b off : Nat} {c1 c2 : List Value} : CellsAt w b off (c1 ++ c2) ↔ CellsAt w b off c1 ∧ CellsAt w b (off + c1.length) c2 := by
  constructor
  · intro h
    refine ⟨fun j v hj => h j v ?_, fun j v hj => ?_⟩
    · have hlt : j < c1.length := by
        rcases Nat.lt_or_ge j c1.length with h | h
        · exact h
        · rw [List.getElem?_eq_none h] at hj; cases hj
      rw [List.getElem?_append_left hlt]; exact hj
    · have := h (c1.length + j) v (by rw [List.getElem?_append_right (Nat.le_add_right _ _)]; simpa using hj)
      rwa [← Nat.add_assoc] at this
  · rintro ⟨h1, h2⟩ j v hj
    rcases Nat.lt_or_ge j c1.length with hlt | hge
    · rw [List.getElem?_append_left hlt] at hj; exact h1 j v hj
    · rw [List.getElem?_append_right hge] at hj
      have := h2 _ v hj
      rwa [Nat.add_assoc, Nat.add_sub_cancel' hge] at this

/-- A part's cells are cells of the whole. -/
theorem sub_sound {I : Nat → Prop} {te : Ty} : ∀ (T : Ty) (off : Nat) (x : Den T) (y : Den te) (cs : List Value), sub T off te x = some y → RepC w I T x cs →
    RepC w I te y ((cs.drop off).take (sz te)) ∧ off + sz te ≤ cs.length
  | .prod a b, off, x, y, cs, h, hc => by
    rw [sub] at h
    split at h
    · rename_i e
      obtain ⟨e1, e2⟩ := e
      obtain ⟨e3, e4⟩ := castD_eq h
      subst e2
      cases e3
      cases e4
      have hl := RepC.length _ _ _ hc
      rw [← hl]
      simpa using hc
    · simp only [RepC] at hc
      obtain ⟨c1, c2, rfl, h1, h2⟩ := hc
      have hl := RepC.length _ _ _ h1
      split at h
      · obtain ⟨g1, g2⟩ := sub_sound a off x.1 y c1 h h1
        refine ⟨?_, by simp; omega⟩
        rw [List.drop_append_of_le_length (by omega), List.take_append_of_le_length (by simp; omega)]
        exact g1
      · rename_i hge
        obtain ⟨g1, g2⟩ := sub_sound b (off - sz a) x.2 y c2 h h2
        refine ⟨?_, by simp; omega⟩
        rw [List.drop_append, List.drop_eq_nil_of_le (by omega), hl]
        simpa using g1
  | .int k, off, x, y, cs, h, hc => by
    simp only [sub] at h; split at h
    · obtain ⟨rfl, rfl⟩ := castD_eq h
      rename_i e; subst e
      have hl := RepC.length _ _ _ hc
      rw [← hl]; simpa using hc
    · cases h
  | .bool, off, x, y, cs, h, hc => by
    simp only [sub] at h; split at h
    · obtain ⟨rfl, rfl⟩ := castD_eq h
      rename_i e; subst e
      have hl := RepC.length _ _ _ hc
      rw [← hl]; simpa using hc
    · cases h
  | .unit, off, x, y, cs, h, hc => by
    simp only [sub] at h; split at h
    · obtain ⟨rfl, rfl⟩ := castD_eq h
      rename_i e; subst e
      have hl := RepC.length _ _ _ hc
      rw [← hl]; simpa using hc
    · cases h
  | .slice e', off, x, y, cs, h, hc => by
    simp only [sub] at h; split at h
    · obtain ⟨rfl, rfl⟩ := castD_eq h
      rename_i e; subst e
      have hl := RepC.length _ _ _ hc
      rw [← hl]; simpa using hc
    · cases h
  | .ptr e', off, x, y, cs, h, hc => by
    simp only [sub] at h; split at h
    · obtain ⟨rfl, rfl⟩ := castD_eq h
      rename_i e; subst e
      have hl := RepC.length _ _ _ hc
      rw [← hl]; simpa using hc
    · cases h
  | .optr e', off, x, y, cs, h, hc => by
    simp only [sub] at h; split at h
    · obtain ⟨rfl, rfl⟩ := castD_eq h
      rename_i e; subst e
      have hl := RepC.length _ _ _ hc
      rw [← hl]; simpa using hc
    · cases h
  | .map k' v', off, x, y, cs, h, hc => by
    simp only [sub] at h; split at h
    · obtain ⟨rfl, rfl⟩ := castD_eq h
      rename_i e; subst e
      have hl := RepC.length _ _ _ hc
      rw [← hl]; simpa using hc
    · cases h
  | .oth, off, x, y, cs, h, hc => by simp only [RepC] at hc

theorem sz_arrT (n : Nat) (t : Ty) : sz (arrT n t) = n * sz t := by
  induction n with
  | zero => simp [arrT, sz]
  | succ n ih => simp only [arrT, sz, ih, Nat.succ_mul]; omega

theorem arrGet_sound {I : Nat → Prop} {te : Ty} : ∀ (n : Nat) (x : Den (arrT n te)) (i : Nat) (cs : List Value), RepC w I (arrT n te) x cs → i < n →
    RepC w I te (arrGet n te x i) ((cs.drop (i * sz te)).take (sz te)) ∧ i * sz te + sz te ≤ cs.length
  | 0, _, i, _, _, h => by omega
  | n + 1, x, 0, cs, h, _ => by
    simp only [arrT, RepC] at h
    obtain ⟨c1, c2, rfl, h1, h2⟩ := h
    have hl := RepC.length _ _ _ h1
    simp only [arrGet]
    refine ⟨?_, by simp; omega⟩
    simpa [← hl] using h1
  | n + 1, x, i + 1, cs, h, hi => by
    simp only [arrT, RepC] at h
    obtain ⟨c1, c2, rfl, h1, h2⟩ := h
    have hl := RepC.length _ _ _ h1
    simp only [arrGet]
    obtain ⟨g1, g2⟩ := arrGet_sound n x.2 i c2 h2 (by omega)
    have e : (i + 1) * sz te - c1.length = i * sz te := by rw [Nat.succ_mul, hl]; omega
    have e2 : c1.length ≤ (i + 1) * sz te := by rw [Nat.succ_mul, hl]; omega
    refine ⟨?_, by rw [Nat.succ_mul]; simp; omega⟩
    rw [List.drop_append, List.drop_eq_nil_of_le e2, e]
    simpa using g1

theorem CellsAt.part {b off : Nat} {cs : List Value} (h : CellsAt w b off cs) (i n : Nat) : CellsAt w b (off + i) ((cs.drop i).take n) := by
  intro j v hj
  have h1 : (cs.drop i)[j]? = some v := by
    rw [List.getElem?_take] at hj
    split at hj
    · exact hj
    · cases hj
  rw [List.getElem?_drop] at h1
  have := h (i + j) v h1
  rwa [← Nat.add_assoc] at this

theorem arrList_sound {I : Nat → Prop} {te : Ty} : ∀ (n : Nat) (x : Den (arrT n te)) (cs : List Value), RepC w I (arrT n te) x cs →
    (arrList n te x).length = n ∧ ∀ (i : Nat) (y : Den te), (arrList n te x)[i]? = some y → RepC w I te y ((cs.drop (i * sz te)).take (sz te))
  | 0, _, _, _ => ⟨rfl, fun i y h => by simp [arrList] at h⟩
  | n + 1, x, cs, h => by
    simp only [arrT, RepC] at h
    obtain ⟨c1, c2, rfl, h1, h2⟩ := h
    have hl := RepC.length _ _ _ h1
    obtain ⟨g1, g2⟩ := arrList_sound n x.2 c2 h2
    refine ⟨by simp [arrList, g1], fun i y hy => ?_⟩
    cases i with
    | zero =>
      simp only [arrList, List.getElem?_cons_zero, Option.some.injEq] at hy
      subst hy
      simpa [← hl] using h1
    | succ i =>
      simp only [arrList, List.getElem?_cons_succ] at hy
      have e : (i + 1) * sz te - c1.length = i * sz te := by rw [Nat.succ_mul, hl]; omega
      have e2 : c1.length ≤ (i + 1) * sz te := by rw [Nat.succ_mul, hl]; omega
      rw [List.drop_append, List.drop_eq_nil_of_le e2, e]
      simpa using g2 i y hy

end vals

theorem getD_eq {T : List AV} {n : Nat} : T.getD n .undef = (T[n]?).getD .undef := by simp [List.getD]

theorem ev_tmp {Γ : Cx} {S : St} {a : Act} {w : World} (e : Emb Γ S a w) (t : Nat) : Ra w Γ (S.T.getD t .undef) (a.tmps.getD t undef) := by
  rw [List.getD_eq_getElem?_getD]
  cases h : S.T[t]? with
  | some x =>
    obtain ⟨v, hv, hr⟩ := e.tmp t x h
    simp only [Array.getD_eq_getD_getElem?, hv, Option.getD_some]
    exact hr
  | none => simp only [Option.getD_none, Ra, Rp]; exact ⟨_, rfl⟩

theorem denOf_sound {w : World} {I : Nat → Prop} : ∀ (t : Ty) (cs : List Value) (x : Den t), denOf t cs = some x → RepC w I t x cs
  | .int k, cs, x, h => by
    simp only [denOf] at h
    split at h
    · split at h
      · cases h; rename_i h; subst h; simp only [RepC]
      · cases h
    · cases h
  | .bool, cs, x, h => by
    simp only [denOf] at h
    split at h
    · cases h; simp only [RepC]
    · cases h
  | .unit, cs, x, h => by
    simp only [denOf] at h
    split at h
    · simp only [RepC]
    · cases h
  | .prod a b, cs, x, h => by
    rw [denOf] at h
    cases h1 : denOf a (cs.take (sz a)) with
    | none => rw [h1] at h; cases h
    | some y => cases h2 : denOf b (cs.drop (sz a)) with
      | none => rw [h1, h2] at h; cases h
      | some z =>
        rw [h1, h2] at h
        cases h
        simp only [RepC]
        exact ⟨_, _, (List.take_append_drop _ _).symm, denOf_sound a _ _ h1, denOf_sound b _ _ h2⟩
  | .slice e, cs, x, h => by
    simp only [denOf] at h
    split at h
    · cases h
      simp only [RepC]
      exact ⟨none, 0, rfl, Nat.le_refl _, fun _ => rfl, fun i x hx => by simp [nth] at hx⟩
    · cases h
  | .ptr e, cs, x, h => by simp only [denOf] at h; cases h
  | .optr e, cs, x, h => by
    simp only [denOf] at h
    split at h
    · cases h; simp only [RepC]; exact .inl ⟨rfl, trivial⟩
    · cases h
  | .map k v, cs, x, h => by simp only [denOf] at h; cases h
  | .oth, cs, x, h => by simp only [denOf] at h; cases h

end Go.Ab
