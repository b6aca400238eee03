/- Mutable blocks taken as fixed data: what an argument or a result stands for. -/
import Derived.Test.YtffapeomfjfedaaAb27
set_option linter.unusedVariables false
set_option linter.unusedSimpArgs false
namespace Go.Ab

/-- All that is written to, taken as fixed from now on. -/
def Cx.freeze (Γ : Cx) (H : List Hs) : Cx := { Γ with I := fun n => Γ.I n ∨ Wr Γ H n, A := fun _ => False }

section
variable {w : World} {Γ : Cx} {H : List Hs}

theorem freeze_emb (e : EmbH Γ H w) : EmbH (Γ.freeze H) [] w := by
  refine ⟨fun b B h => by simp at h, fun b b' h => by obtain ⟨B, h⟩ := h; simp at h, fun b h => by obtain ⟨B, h⟩ := h; simp at h, fun n hn => ?_, fun b => ?_⟩
  · rcases hn with h | ⟨b, hb, hk, rfl⟩
    · exact e.old n h
    · exact e.lt hb hk
  · exact ⟨fun h => h.elim, fun ⟨x, hx, _⟩ => by simp at hx⟩

/-- The blocks are as they are said to be. -/
def BlkOk (Γ : Cx) (H : List Hs) (w : World) : Prop := ∀ b B, H[b]? = some (.live B) → RepB w Γ b B

theorem blkOk_nil : BlkOk Γ [] w := fun b B h => by simp at h

def Jf (Γ : Cx) (H : List Hs) : Nat → Prop := fun n => Γ.I n ∨ Wr Γ H n

theorem RepC.toJ {t : Ty} {x : Den t} {cs : List Value} (h : RepC w Γ.I t x cs) : RepC w (Jf Γ H) t x cs := RepC.mono (fun _ h => .inl h) (fun _ _ => rfl) t x cs h

theorem ra_one {t t' : Ty} {x : Den t'} {y : Den t} {v : Value} (hc : castD t' t x = some y) (hr : Ra w Γ (.val t' x) v) (ht : isAgg t = false) : RepC w (Jf Γ H) t y [v] := by
  obtain ⟨e1, e2⟩ := castD_eq hc
  subst e1
  subst e2
  obtain ⟨cs, h1, h2⟩ := Ra_val.1 hr
  have hl := RepC.length _ _ _ h1
  rw [RepC.one ht] at hl
  match cs, hl, h1, h2 with
  | [u], _, h1, h2 =>
    simp only [mkV, ht, Bool.false_eq_true, if_false, List.headD_cons] at h2
    subst h2
    exact h1.toJ

theorem fa_one {x : AV} {vs : List Value} (h : Fa w Γ [x] vs) : ∃ v, vs = [v] ∧ Ra w Γ x v := by
  match vs, h with
  | [v], h => exact ⟨v, rfl, h.1⟩
  | [], h => exact h.elim
  | _ :: _ :: _, h => exact h.2.elim

theorem arrElems_spec {e : Ty} {b s : Nat} {ys : List (Den e)} (h : arrElems H e b s = some ys) : s = sz e ∧ ∃ opn, H[b]? = some (.live (.arr e ys opn)) := by
  unfold arrElems at h
  split at h
  · rename_i te xs opn hg
    by_cases hs : s = sz te
    · rw [if_pos hs] at h
      obtain ⟨e1, e2⟩ := castL_eq h
      subst e1
      subst e2
      exact ⟨hs, opn, hget_eq hg⟩
    · rw [if_neg hs] at h; cases h
  · cases h

theorem arr_ne {b : Nat} {te : Ty} {xs : List (Den te)} {opn : Bool} (h : RepB w Γ b (.arr te xs opn)) {i : Nat} (hi : i < xs.length) : Γ.κ b ≠ 0 := by
  simp only [RepB] at h
  omega

theorem cells_ne {b : Nat} {vs : List AV} (h : RepB w Γ b (.cells vs)) : Γ.κ b ≠ 0 := by
  simp only [RepB] at h
  exact h.1

/-- What lies at an address. -/
theorem arrAt_sound (em : BlkOk Γ H w) {e : Ty} {b s i o : Nat} {p : List Prop} {y : Den e} (h : arrAt H e b s i o = some (p, y)) (hp : allP p) :
    Live H b ∧ Γ.κ b ≠ 0 ∧ ∃ cs, RepC w Γ.I e y cs ∧ CellsAt w (Γ.ν b) (i * s + o) cs := by
  unfold arrAt at h
  split at h
  · rename_i te xs opn hg
    have hB := em b _ (hget_eq hg)
    refine ⟨⟨_, hget_eq hg⟩, ?_⟩
    split at h
    · rename_i hs
      obtain ⟨rfl, rfl⟩ := hs
      split at h
      · rename_i ys hy
        cases h
        obtain ⟨e1, e2⟩ := castL_eq hy
        subst e1
        subst e2
        have hlt := allP_one.1 hp
        rw [getD_lt hlt]
        obtain ⟨cs, g1, g2⟩ := arr_elem hB (List.getElem?_eq_getElem hlt)
        exact ⟨arr_ne hB hlt, cs, g1, by simpa using g2⟩
      · split at h
        · rename_i hh
          cases h
          have hle := allP_one.1 hp
          obtain ⟨cs, g1, g2⟩ := unflatAt_sound hB hh.1.1 e i hh.2 hle
          have := hh.1.2
          exact ⟨arr_ne (i := i) hB (by omega), cs, g1, by simpa [hh.1.1] using g2⟩
        · cases h
    · cases h
  · cases h

theorem wr_of {b : Nat} (hb : Live H b) (hk : Γ.κ b ≠ 0) : Jf Γ H (Γ.ν b) := .inr ⟨b, hb, hk, rfl⟩

theorem rv_sound (em : BlkOk Γ H w) : ∀ (t : Ty) (cs : List AV) (vs : List Value) (p : List Prop) (y : Den t), rv H t cs = some (p, y) → allP p → Fa w Γ cs vs → RepC w (Jf Γ H) t y vs
  | .unit, cs, vs, p, y, h, hp, hf => by
    simp only [rv] at h
    split at h
    · cases vs with
      | nil => simp only [RepC]
      | cons => exact hf.elim
    · cases h
  | .prod a b, cs, vs, p, y, h, hp, hf => by
    simp only [rv] at h
    split at h
    · rename_i p1 x q z h1 h2
      cases h
      obtain ⟨hp1, hp2⟩ := allP_app.1 hp
      simp only [RepC]
      exact ⟨vs.take (sz a), vs.drop (sz a), (List.take_append_drop _ _).symm, rv_sound em a _ _ _ _ h1 hp1 (hf.take _), rv_sound em b _ _ _ _ h2 hp2 (hf.drop _)⟩
    · cases h
  | .slice e, cs, vs, p, y, h, hp, hf => by
    simp only [rv] at h
    split at h
    · rename_i t' x
      obtain ⟨v, rfl, hr⟩ := fa_one hf
      cases hc : castD t' (.slice e) x with
      | none => rw [hc] at h; cases h
      | some z => rw [hc] at h; cases h; exact ra_one hc hr rfl
    · rename_i t' xs c
      obtain ⟨v, rfl, hr⟩ := fa_one hf
      cases hc : castD (.slice t') (.slice e) xs with
      | none => rw [hc] at h; cases h
      | some z =>
        rw [hc] at h
        cases h
        obtain ⟨e1, e2⟩ := castD_eq hc
        cases e1
        subst e2
        obtain ⟨ad, hv, h1, h2, h3⟩ := Ra_vsl.1 hr
        subst hv
        simp only [RepC]
        refine ⟨ad, c, rfl, h1, h2, fun i x hx => ?_⟩
        obtain ⟨b, off, c', g1, g2, g3, g4⟩ := h3 i x hx
        exact ⟨b, off, c', g1, .inl g2, g3.toJ, g4⟩
    · rename_i b s i len c
      obtain ⟨v, rfl, hr⟩ := fa_one hf
      split at h
      · rename_i ys hy
        cases h
        obtain ⟨rfl, opn, hH⟩ := arrElems_spec hy
        obtain ⟨hA, ad, cap, hv, hcap, hoff, hle⟩ := Ra_sl.1 hr
        have hil : i + len ≤ ys.length := allP_one.1 hp
        have hlen : ((ys.drop i).take len).length = len := by rw [List.length_take, List.length_drop]; omega
        subst hv
        simp only [RepC]
        refine ⟨ad, cap, by rw [hlen], by rw [hlen]; exact hle, fun hn => (by apply Classical.byContradiction; intro hc; rw [hoff hc] at hn; cases hn), fun j x hx => ?_⟩
        have hj : j < len := by
          rcases Nat.lt_or_ge j ((ys.drop i).take len).length with h | h
          · omega
          · rw [nth, List.getElem?_eq_none h] at hx; cases hx
        obtain ⟨b', off', cs, e1, g1, g2⟩ := arr_src (em b _ hH) (len := len) (i := i) (ad := ad) (fun h0 => hoff (by omega)) j x hx
        have e2 := hoff (by omega)
        rw [e1] at e2
        cases e2
        exact ⟨_, _, cs, e1, wr_of ⟨_, hH⟩ (arr_ne (i := i + j) (em b _ hH) (by omega)), g1.toJ, g2⟩
      · cases h
    · cases h
  | .optr e, cs, vs, p, y, h, hp, hf => by
    simp only [rv] at h
    split at h
    · rename_i t' x
      obtain ⟨v, rfl, hr⟩ := fa_one hf
      split at h
      · rename_i z hc
        cases h
        exact ra_one hc hr rfl
      · cases hc : castD t' (.ptr e) x with
        | none => rw [hc] at h; cases h
        | some z =>
          rw [hc] at h
          cases h
          have := ra_one (H := H) hc hr rfl
          simp only [RepC] at this ⊢
          obtain ⟨b, off, c, g1, g2, g3, g4⟩ := this
          exact .inr ⟨z, rfl, b, off, c, g1, g2, g3, g4⟩
    · rename_i b s i o
      obtain ⟨v, rfl, hr⟩ := fa_one hf
      obtain ⟨hA, rfl⟩ := Ra_ref.1 hr
      simp only [RepC]
      split at h
      · rename_i us hu
        cases hx : rv H e us with
        | none => rw [hx] at h; cases h
        | some r =>
          obtain ⟨p', z⟩ := r
          rw [hx] at h
          cases h
          unfold cellsAt at hu
          split at hu
          · rename_i ws hg
            cases hu
            obtain ⟨c, k1, k2⟩ := cells_run (em b _ (hget_eq hg)) (i * s + o) (sz e)
            exact .inr ⟨z, rfl, _, _, c, rfl, wr_of ⟨_, hget_eq hg⟩ (cells_ne (em b _ (hget_eq hg))), rv_sound em e _ _ _ _ hx hp k1, k2⟩
          · cases hu
      · cases hx : arrAt H e b s i o with
        | none => rw [hx] at h; cases h
        | some r =>
          obtain ⟨p', z⟩ := r
          rw [hx] at h
          cases h
          obtain ⟨hl, hk, c, k1, k2⟩ := arrAt_sound em hx hp
          exact .inr ⟨z, rfl, _, _, c, rfl, wr_of hl hk, k1.toJ, k2⟩
    · cases h
  | .ptr e, cs, vs, p, y, h, hp, hf => by
    simp only [rv] at h
    split at h
    · rename_i t' x
      obtain ⟨v, rfl, hr⟩ := fa_one hf
      split at h
      · rename_i z hc
        cases h
        exact ra_one hc hr rfl
      · cases hc : castD t' (.optr e) x with
        | none => rw [hc] at h; cases h
        | some z =>
          rw [hc] at h
          cases h
          have := ra_one (H := H) hc hr rfl
          simp only [RepC] at this ⊢
          rcases this with ⟨rfl, _⟩ | ⟨u, rfl, b, off, c, g1, g2, g3, g4⟩
          · exact absurd (allP_one.1 hp) (by simp)
          · exact ⟨b, off, c, g1, g2, g3, g4⟩
    · rename_i b s i o
      obtain ⟨v, rfl, hr⟩ := fa_one hf
      obtain ⟨hA, rfl⟩ := Ra_ref.1 hr
      simp only [RepC]
      split at h
      · rename_i us hu
        unfold cellsAt at hu
        split at hu
        · rename_i ws hg
          cases hu
          obtain ⟨c, k1, k2⟩ := cells_run (em b _ (hget_eq hg)) (i * s + o) (sz e)
          exact ⟨_, _, c, rfl, wr_of ⟨_, hget_eq hg⟩ (cells_ne (em b _ (hget_eq hg))), rv_sound em e _ _ _ _ h hp k1, k2⟩
        · cases hu
      · obtain ⟨hl, hk, c, k1, k2⟩ := arrAt_sound em h hp
        exact ⟨_, _, c, rfl, wr_of hl hk, k1.toJ, k2⟩
    · cases h
  | .map k v, cs, vs, p, y, h, hp, hf => by
    simp only [rv] at h
    split at h
    · rename_i t' x
      obtain ⟨u, rfl, hr⟩ := fa_one hf
      cases hc : castD t' (.map k v) x with
      | none => rw [hc] at h; cases h
      | some z => rw [hc] at h; cases h; exact ra_one hc hr rfl
    · rename_i b
      obtain ⟨u, rfl, hr⟩ := fa_one hf
      split at h
      · rename_i k' v' es hg
        cases hc : castD (.map k' v') (.map k v) es with
        | none => rw [hc] at h; cases h
        | some z =>
          rw [hc] at h
          cases h
          obtain ⟨e1, e2⟩ := castD_eq hc
          cases e1
          subst e2
          have hB := em b _ (hget_eq hg)
          simp only [Ra, Rp, List.cons.injEq, and_true] at hr
          obtain ⟨hA, rfl⟩ := hr
          simp only [RepB] at hB
          obtain ⟨hk0, ents, cl, h1, h2, h3⟩ := hB
          simp only [RepC]
          refine ⟨Γ.ν b, ents, cl, rfl, wr_of ⟨_, hget_eq hg⟩ hk0, h1, h2, fun i x hx => ?_⟩
          obtain ⟨ent, ck, cv, m1, m2, m3, m4, m5⟩ := h3 i x hx
          exact ⟨ent, ck, cv, m1, m2.toJ, m3, m4.toJ, m5⟩
      · cases h
    · cases h
  | .int k, cs, vs, p, y, h, hp, hf => by
    simp only [rv] at h
    split at h
    · rename_i t' x
      obtain ⟨v, rfl, hr⟩ := fa_one hf
      cases hc : castD t' (.int k) x with
      | none => rw [hc] at h; cases h
      | some z => rw [hc] at h; cases h; exact ra_one hc hr rfl
    · cases h
  | .bool, cs, vs, p, y, h, hp, hf => by
    simp only [rv] at h
    split at h
    · rename_i t' x
      obtain ⟨v, rfl, hr⟩ := fa_one hf
      cases hc : castD t' .bool x with
      | none => rw [hc] at h; cases h
      | some z => rw [hc] at h; cases h; exact ra_one hc hr rfl
    · cases h
  | .oth, cs, vs, p, y, h, hp, hf => by
    simp only [rv] at h
    split at h
    · rename_i t' x
      obtain ⟨v, rfl, hr⟩ := fa_one hf
      cases hc : castD t' .oth x with
      | none => rw [hc] at h; cases h
      | some z => rw [hc] at h; cases h; exact ra_one hc hr rfl
    · cases h

theorem rvV_sound (em : BlkOk Γ H w) {t : Ty} {x : AV} {v : Value} {p : List Prop} {y : Den t} (h : rvV H t x = some (p, y)) (hp : allP p) (hr : Ra w Γ x v) : RepV w (Jf Γ H) t y v := by
  unfold rvV at h
  split at h
  · rename_i hag
    split at h
    · rename_i t' z
      cases hc : castD t' t z with
      | none => rw [hc] at h; cases h
      | some u =>
        rw [hc] at h
        cases h
        obtain ⟨e1, e2⟩ := castD_eq hc
        subst e1
        subst e2
        obtain ⟨cs, h1, h2⟩ := Ra_val.1 hr
        exact ⟨cs, h1.toJ, h2⟩
    · cases h
  · rename_i hag
    have hag' : isAgg t = false := by simpa using hag
    have := rv_sound em t [x] [v] p y h hp ⟨hr, trivial⟩
    exact ⟨[v], this, by simp [mkV, hag']⟩

end
end Go.Ab
