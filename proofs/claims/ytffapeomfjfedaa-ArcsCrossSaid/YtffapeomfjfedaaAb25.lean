/- Loops: a state that was read is one of the loop's head. -/
import Derived.Test.YtffapeomfjfedaaAb24
set_option linter.unusedVariables false
set_option linter.unusedSimpArgs false
namespace Go.Ab

section
variable {w : World} {Γ Γ' : Cx} {ρ : List (Option Nat)} {nm : List Nat} {H : List Hs} {lens : List Nat}

theorem asList_nil {e : Ty} : asList e .nil = none := rfl
theorem asList_cons {e : Ty} {a l : AV} : asList e (.cons a l) = none := rfl
theorem asD_nil {e : Ty} : asD e .nil = none := rfl
theorem asD_cons {e : Ty} {a l : AV} : asD e (.cons a l) = none := rfl

theorem readV_v : ∀ {t : Ty} {x : AV} {q : List Prop} {h : List AV}, readV ρ H lens (.v t) x = some (q, h) → ∀ {vs : List Value}, Rp w Γ x vs → ∃ (y : Den t) (v : Value), h = [.val t y] ∧ vs = [v] ∧ RepV w Γ.I t y v := by
  intro t x q h hr vs hx
  have hsl : ∀ e (ys : List (Den e)), asList e x = some ys → ∃ v, vs = [v] ∧ RepV w Γ.I (.slice e) ys v := fun e ys hy => by
    have : ∃ v, vs = [v] := Rp_one hx (fun e => by rw [e, asList_nil] at hy; cases hy) (fun a l e => by rw [e, asList_cons] at hy; cases hy)
    obtain ⟨v, rfl⟩ := this
    obtain ⟨ad, cap, h1, h2, h3, h4⟩ := asList_sound hy hx
    exact ⟨v, rfl, RepV_slice.2 ⟨ad, cap, h1, h2, h3, h4⟩⟩
  have hot : ∀ (y : Den t), asD t x = some y → ∃ v, vs = [v] ∧ RepV w Γ.I t y v := fun y hy => by
    have : ∃ v, vs = [v] := Rp_one hx (fun e => by rw [e, asD_nil] at hy; cases hy) (fun a l e => by rw [e, asD_cons] at hy; cases hy)
    obtain ⟨v, rfl⟩ := this
    exact ⟨v, rfl, asD_sound hy hx⟩
  cases t with
  | slice e =>
    simp only [readV] at hr
    split at hr
    · rename_i ys hy
      cases hr
      obtain ⟨v, h1, h2⟩ := hsl e ys hy
      exact ⟨ys, v, rfl, h1, h2⟩
    · cases hr
  | _ =>
    simp only [readV] at hr
    split at hr
    · rename_i y hy
      cases hr
      obtain ⟨v, h1, h2⟩ := hot y hy
      exact ⟨y, v, rfl, h1, h2⟩
    · cases hr

theorem readV_sound (em : ∀ b B, H[b]? = some (.live B) → RepB w Γ b B) (hn : Nm Γ Γ' ρ nm) : ∀ {tv : TV} {x : AV} {q : List Prop} {h : List AV}, readV ρ H lens tv x = some (q, h) → allP q →
    ∀ {vs : List Value}, Rp w Γ x vs → ∀ rest, Rp w Γ' (instV nm lens tv (h ++ rest)) vs
  | .u, x, q, h, hr, hq, vs, hx, rest => by
    have h1 : x ≠ .nil := fun e => by subst e; simp [readV] at hr
    have h2 : ∀ a l, x ≠ .cons a l := fun a l e => by subst e; simp [readV] at hr
    obtain ⟨v, e⟩ := Rp_one hx h1 h2
    simp only [instV, Rp]
    exact ⟨v, e⟩
  | .v t, x, q, h, hr, hq, vs, hx, rest => by
    obtain ⟨y, v, e1, e2, hy⟩ := readV_v hr hx
    subst e1
    simp only [instV, List.cons_append, List.headD_cons, Rp]
    exact ⟨v, e2, hy.mono hn.I (fun _ _ => rfl)⟩
  | .sl j s i, x, q, h, hr, hq, vs, hx, rest => by
    simp only [readV] at hr
    split at hr
    · rename_i b s' i' len c
      split at hr
      · rename_i hh
        obtain ⟨h1, h2, h3⟩ := hh
        subst h2
        subst h3
        obtain ⟨g1, g2, g3⟩ := hn.so _ _ (isAt_spec h1)
        split at hr
        · cases hr
          show Rp w Γ' (.sl (nmAt nm j) s' i' ((len : Int)).toNat none) vs
          rw [Int.toNat_natCast]
          simp only [Rp] at hx ⊢
          obtain ⟨_, ad, cap, k1, k2, k3, k4⟩ := hx
          exact ⟨g1, ad, cap, k1, by rw [g3]; exact k2, by rw [g2]; exact k3, k4⟩
        · split at hr
          · rename_i c t xs hg
            cases hr
            have hc := allP_one.1 hq
            have hB := em b _ (hget_eq hg)
            simp only [RepB] at hB
            have hk := hB.2.1 trivial
            show Rp w Γ' (.sl (nmAt nm j) s' i' ((len : Int)).toNat none) vs
            rw [Int.toNat_natCast]
            simp only [Rp] at hx ⊢
            obtain ⟨_, ad, cap, k1, k2, k3, k4⟩ := hx
            refine ⟨g1, ad, cap, k1, ?_, by rw [g2]; exact k3, k4⟩
            rw [g3, k2, Option.getD_some, Option.getD_none, hc, hk]
          · cases hr
      · cases hr
    · cases hr
  | .slf j s, x, q, h, hr, hq, vs, hx, rest => by
    simp only [readV] at hr
    split at hr
    · rename_i b s' i' len c
      split at hr
      · rename_i hh
        obtain ⟨h1, h2, h3⟩ := hh
        subst h2
        subst h3
        obtain ⟨g1, g2, g3⟩ := hn.so _ _ (isAt_spec h1)
        split at hr
        · cases hr
          have he := allP_one.1 hq
          simp only [instV]
          rw [← he]
          simp only [Rp] at hx ⊢
          obtain ⟨_, ad, cap, k1, k2, k3, k4⟩ := hx
          exact ⟨g1, ad, cap, k1, by rw [g3]; exact k2, by rw [g2]; exact k3, k4⟩
        · split at hr
          · rename_i c t xs hg
            cases hr
            obtain ⟨he, hc⟩ := allP_cons.1 hq
            have hc := allP_one.1 hc
            have hB := em b _ (hget_eq hg)
            simp only [RepB] at hB
            have hk := hB.2.1 trivial
            simp only [instV]
            rw [← he]
            simp only [Rp] at hx ⊢
            obtain ⟨_, ad, cap, k1, k2, k3, k4⟩ := hx
            refine ⟨g1, ad, cap, k1, ?_, by rw [g2]; exact k3, k4⟩
            rw [g3, k2]
            simp only [Option.getD_some, Option.getD_none, Nat.sub_zero]
            omega
          · cases hr
      · cases hr
    · rename_i t xs c
      split at hr
      · rename_i hh
        obtain ⟨h1, h2⟩ := hh
        subst h2
        obtain ⟨g1, g3⟩ := hn.no _ (isNo_spec h1)
        cases hr
        have he := allP_one.1 hq
        simp only [instV]
        rw [← he]
        simp only [Rp] at hx ⊢
        obtain ⟨ad, k1, k2, k3, k4⟩ := hx
        have hl : xs.length = 0 := by omega
        rw [hl] at k1
        exact ⟨g1, ad, 0, k1, by rw [g3]; rfl, fun h => absurd rfl h, Nat.le_refl _⟩
      · cases hr
    · cases hr
  | .ref j s i o, x, q, h, hr, hq, vs, hx, rest => by
    simp only [readV] at hr
    split at hr
    · split at hr
      · rename_i hh
        obtain ⟨h1, rfl, rfl, rfl⟩ := hh
        obtain ⟨g1, g2, g3⟩ := hn.so _ _ (isAt_spec h1)
        cases hr
        simp only [instV, Rp] at hx ⊢
        exact ⟨g1, by rw [g2]; exact hx.2⟩
      · cases hr
    · cases hr
  | .mref j, x, q, h, hr, hq, vs, hx, rest => by
    simp only [readV] at hr
    split at hr
    · split at hr
      · rename_i h1
        obtain ⟨g1, g2, g3⟩ := hn.so _ _ (isAt_spec h1)
        cases hr
        simp only [instV, Rp] at hx ⊢
        exact ⟨g1, by rw [g2]; exact hx.2⟩
      · cases hr
    · cases hr
  | .fn f c, x, q, h, hr, hq, vs, hx, rest => by
    simp only [readV] at hr
    split at hr
    · rename_i g d
      split at hr
      · rename_i hf
        have hf : f = g := by simpa using hf
        subst hf
        simp only [instV, Rp] at hx ⊢
        obtain ⟨us, e, hx⟩ := hx
        exact ⟨us, e, readV_sound em hn hr hq hx rest⟩
      · cases hr
    · cases hr
  | .nil, x, q, h, hr, hq, vs, hx, rest => by
    simp only [readV] at hr
    split at hr
    · simp only [instV, Rp] at hx ⊢; exact hx
    · cases hr
  | .cons a l, x, q, h, hr, hq, vs, hx, rest => by
    simp only [readV] at hr
    split at hr
    · rename_i y z
      split at hr
      · rename_i p h1 q' r e1 e2
        cases hr
        obtain ⟨q1, q2⟩ := allP_app.1 hq
        obtain ⟨q2, q3⟩ := allP_app.1 q2
        simp only [Rp] at hx
        obtain ⟨v, us, e, k1, k2⟩ := hx
        have k1' : Ra w Γ y v := k1
        have n1 : h1.length = a.n := (readV_ok e1).length.trans a.n_eq
        simp only [instV, Rp, List.append_assoc, drop_holes n1]
        exact ⟨v, us, e, readV_sound em hn e1 q2 (peel_sound k1' q1) _, readV_sound em hn e2 q3 k2 _⟩
      · cases hr
    · cases hr

theorem readC_sound (em : ∀ b B, H[b]? = some (.live B) → RepB w Γ b B) (hn : Nm Γ Γ' ρ nm) : ∀ {l : List TV} {vs : List AV} {q : List Prop} {h : List AV} (rest : List AV), readC ρ H lens l vs = some (q, h) → allP q →
    (instC nm lens l (h ++ rest)).length = vs.length ∧ ∀ (i : Nat) (x : AV), (instC nm lens l (h ++ rest))[i]? = some x → ∃ y, vs[i]? = some y ∧ ∀ v, Ra w Γ y v → Ra w Γ' x v
  | [], [], q, h, rest, hr, _ => ⟨rfl, fun i x hx => by simp [instC] at hx⟩
  | tv :: l, v :: vs, q, h, rest, hr, hq => by
    simp only [readC] at hr
    split at hr
    · rename_i p h1 q' r e1 e2
      cases hr
      obtain ⟨hq1, hq2⟩ := allP_app.1 hq
      obtain ⟨hq2, hq3⟩ := allP_app.1 hq2
      have hl : h1.length = tv.n := (readV_ok e1).length.trans tv.n_eq
      obtain ⟨k1, k2⟩ := readC_sound em hn rest e2 hq3
      simp only [instC, List.append_assoc, drop_holes hl]
      refine ⟨by simp [k1], fun i x hx => ?_⟩
      cases i with
      | zero =>
        simp only [List.getElem?_cons_zero, Option.some.injEq] at hx
        subst hx
        exact ⟨v, rfl, fun u hu => readV_sound em hn e1 hq2 (peel_sound hu hq1) (r ++ rest)⟩
      | succ i =>
        simp only [List.getElem?_cons_succ] at hx ⊢
        exact k2 i x hx
    · cases hr
  | [], _ :: _, _, _, _, hr, _ => by simp [readC] at hr
  | _ :: _, [], _, _, _, hr, _ => by simp [readC] at hr

/-- A list of values, read by a list of shapes. -/
theorem readF_sound (em : ∀ b B, H[b]? = some (.live B) → RepB w Γ b B) (hn : Nm Γ Γ' ρ nm) {l : List TV} {xs : List AV} {q : List Prop} {h : List AV} (rest : List AV) (hr : readC ρ H lens l xs = some (q, h)) (hq : allP q) {vs : List Value} (hf : Fa w Γ xs vs) :
    Fa w Γ' (instC nm lens l (h ++ rest)) vs := by
  obtain ⟨k1, k2⟩ := readC_sound em hn rest hr hq
  refine Fa.of_get (by rw [k1, hf.length]) fun i x hx => ?_
  obtain ⟨y, hy, hm⟩ := k2 i x hx
  obtain ⟨v, hv, hr⟩ := hf.get i y hy
  exact ⟨v, hv, hm v hr⟩

theorem readB_sound (em : ∀ b B, H[b]? = some (.live B) → RepB w Γ b B) (hn : Nm Γ Γ' ρ nm) {j : Nat} {o : Option Nat} (hj : ρ[j]? = some o) {tb : TB} {p : List Prop} {h : List AV} (hr : readB ρ H lens o tb = some (p, h)) (hp : allP p) (rest : List AV)
    {B : Blk} (hB : instB nm lens (h ++ rest) tb = .live B) :
    (∀ b, o = some b → Live H b) ∧ RepB w Γ' (nmAt nm j) B := by
  cases tb with
  | dead => simp only [instB] at hB; cases hB
  | arr t opn =>
    cases o with
    | none =>
      obtain ⟨g1, g3⟩ := hn.no _ hj
      simp only [readB] at hr
      split at hr
      · cases hr
        refine ⟨fun b h => (nomatch h), ?_⟩
        have he : instB nm lens ([AV.val (.slice t) ([] : List (Den t))] ++ rest) (.arr t true) = .live (.arr t [] true) := congrArg (fun l => Hs.live (Blk.arr t l true)) asListD_self
        rw [he] at hB
        cases hB
        simp only [RepB]
        exact ⟨Nat.zero_le _, (fun h => by cases h), fun hk => absurd g3 hk⟩
      · cases hr
    | some b =>
      obtain ⟨g1, g2, g3⟩ := hn.so _ _ hj
      simp only [readB] at hr
      split at hr
      · rename_i t' xs o hg
        split at hr
        · rename_i ys hy
          split at hr
          · rename_i ho
            cases hr
            obtain ⟨e1, e2⟩ := castL_eq hy
            subst e1
            subst e2
            have hb := em b _ (hget_eq hg)
            refine ⟨fun b' h => by cases h; exact ⟨_, hget_eq hg⟩, ?_⟩
            have he : instB nm lens ([.val (.slice t') ys] ++ rest) (.arr t' opn) = .live (.arr t' ys opn) := congrArg (fun l => Hs.live (Blk.arr t' l opn)) asListD_self
            rw [he] at hB
            cases hB
            simp only [RepB] at hb ⊢
            rw [g2, g3]
            obtain ⟨b1, b2, b3⟩ := hb
            refine ⟨b1, fun h => ?_, fun hk => ?_⟩
            · rcases ho with ho | ho
              · subst ho; exact b2 h
              · rw [ho] at h; cases h
            · obtain ⟨c, el, q1, q2, q3⟩ := b3 hk
              exact ⟨c, el, q1, q2, fun i x hx => by
                obtain ⟨cs, m1, m2⟩ := q3 i x hx
                exact ⟨cs, RepC.mono hn.I (fun _ _ => rfl) t' x cs m1, m2⟩⟩
          · cases hr
        · cases hr
      · cases hr
  | cells l =>
    cases o with
    | none => simp [readB] at hr
    | some b =>
      obtain ⟨g1, g2, g3⟩ := hn.so _ _ hj
      simp only [readB] at hr
      split at hr
      · rename_i vs hg
        have hb := em b _ (hget_eq hg)
        refine ⟨fun b' h => by cases h; exact ⟨_, hget_eq hg⟩, ?_⟩
        obtain ⟨k1, k2⟩ := readC_sound (w := w) em hn rest hr hp
        simp only [instB, Hs.live.injEq] at hB
        subst hB
        simp only [RepB] at hb ⊢
        obtain ⟨hk0, c, el, h1, h2, h3⟩ := hb
        refine ⟨by rw [g3]; exact hk0, c, el, by rw [g2]; exact h1, by rw [k1]; exact h2, fun i x hx => ?_⟩
        obtain ⟨y, hy, hm⟩ := k2 i x hx
        obtain ⟨v, q1, q2, q3⟩ := h3 i y hy
        exact ⟨v, q1, q2, hm v q3⟩
      · cases hr
  | map k v =>
    cases o with
    | none => simp [readB] at hr
    | some b =>
      obtain ⟨g1, g2, g3⟩ := hn.so _ _ hj
      simp only [readB] at hr
      split at hr
      · rename_i k' v' es hg
        split at hr
        · rename_i es' he
          cases hr
          obtain ⟨e1, e2⟩ := castD_eq he
          cases e1
          subst e2
          have hb := em b _ (hget_eq hg)
          refine ⟨fun b' h => by cases h; exact ⟨_, hget_eq hg⟩, ?_⟩
          have he : instB nm lens ([.val (.map k v) es'] ++ rest) (.map k v) = .live (.map k v es') := congrArg (fun l => Hs.live (Blk.map k v l)) asMapD_self
          rw [he] at hB
          cases hB
          simp only [RepB] at hb ⊢
          rw [g2, g3]
          obtain ⟨b0, ents, cl, b1, b2, b3⟩ := hb
          exact ⟨b0, ents, cl, b1, b2, fun i e he => by
            obtain ⟨ent, ck, cv, m1, m2, m3, m4, m5⟩ := b3 i e he
            exact ⟨ent, ck, cv, m1, RepC.mono hn.I (fun _ _ => rfl) k _ _ m2, m3, RepC.mono hn.I (fun _ _ => rfl) v _ _ m4, m5⟩⟩
        · cases hr
      · cases hr

theorem instBs_length : ∀ {bl : List TB} {env : List AV}, (instBs nm lens bl env).length = bl.length
  | [], _ => rfl
  | b :: bl, env => by simp [instBs, instBs_length (bl := bl)]

theorem instBs_live : ∀ {bl : List TB} {env : List AV} {j : Nat} {x : Hs}, (instBs nm lens bl env)[j]? = some x → x ≠ .free
  | [], _, _, _, h => by simp [instBs] at h
  | b :: bl, env, 0, x, h => by
    simp only [instBs, List.getElem?_cons_zero, Option.some.injEq] at h
    subst h
    cases b <;> simp [instB]
  | b :: bl, env, j + 1, x, h => by simp only [instBs, List.getElem?_cons_succ] at h; exact instBs_live h

theorem readBs_get : ∀ {bs : List (Option Nat)} {bl : List TB} {q : List Prop} {r : List AV} (rest : List AV), readBs ρ H lens bs bl = some (q, r) → allP q →
    bs.length = bl.length ∧ ∀ (j : Nat) (x : Hs), (instBs nm lens bl (r ++ rest))[j]? = some x → ∃ o tb p h rest', bs[j]? = some o ∧ readB ρ H lens o tb = some (p, h) ∧ allP p ∧ x = instB nm lens (h ++ rest') tb
  | [], [], q, r, rest, hr, _ => ⟨rfl, fun j B hB => by simp [instBs] at hB⟩
  | b :: bs, tb :: bl, q, r, rest, hr, hq => by
    simp only [readBs] at hr
    split at hr
    · rename_i p h q' r' e1 e2
      cases hr
      obtain ⟨hq1, hq2⟩ := allP_app.1 hq
      obtain ⟨k1, k2⟩ := readBs_get rest e2 hq2
      refine ⟨by simp [k1], fun j B hB => ?_⟩
      simp only [instBs, List.append_assoc, drop_holes ((readB_ok e1).length.trans tb.n_eq)] at hB
      cases j with
      | zero =>
        simp only [List.getElem?_cons_zero, Option.some.injEq] at hB
        exact ⟨b, tb, p, h, r' ++ rest, rfl, e1, hq1, hB.symm⟩
      | succ j =>
        simp only [List.getElem?_cons_succ] at hB ⊢
        exact k2 j B hB
    · cases hr
  | [], _ :: _, _, _, _, hr, _ => by simp [readBs] at hr
  | _ :: _, [], _, _, _, hr, _ => by simp [readBs] at hr

theorem killH_length : ∀ {H : List Hs}, (killH H).length = H.length
  | [] => rfl
  | .live _ :: H => by simp [killH, killH_length (H := H)]
  | .dead :: H => by simp [killH, killH_length (H := H)]
  | .free :: H => by simp [killH, killH_length (H := H)]

theorem killH_get : ∀ {H : List Hs} {b : Nat} {x : Hs}, (killH H)[b]? = some x → (∀ B, x ≠ .live B) ∧ (x ≠ .free ↔ ∃ h, H[b]? = some h ∧ h ≠ .free)
  | [], _, _, h => by simp [killH] at h
  | .live B :: H, 0, x, h => by simp only [killH, List.getElem?_cons_zero, Option.some.injEq] at h; subst h; simp
  | .dead :: H, 0, x, h => by simp only [killH, List.getElem?_cons_zero, Option.some.injEq] at h; subst h; simp
  | .free :: H, 0, x, h => by simp only [killH, List.getElem?_cons_zero, Option.some.injEq] at h; subst h; simp
  | .live B :: H, b + 1, x, h => by simp only [killH, List.getElem?_cons_succ] at h ⊢; exact killH_get h
  | .dead :: H, b + 1, x, h => by simp only [killH, List.getElem?_cons_succ] at h ⊢; exact killH_get h
  | .free :: H, b + 1, x, h => by simp only [killH, List.getElem?_cons_succ] at h ⊢; exact killH_get h

theorem forget_get : ∀ {l : List Nat} {T : List AV} {i : Nat}, (forget l T)[i]? = if i ∈ l then T[i]?.map fun _ => AV.undef else T[i]?
  | [], T, i => by simp [forget]
  | n :: l, T, i => by
    simp only [forget]
    rw [forget_get (l := l), List.getElem?_set]
    by_cases h : n = i
    · subst h
      by_cases h1 : n < T.length
      · by_cases h2 : n ∈ l <;> simp [h1, h2]
      · by_cases h2 : n ∈ l <;> simp [h1, h2, List.getElem?_eq_none (Nat.le_of_not_lt h1)]
    · have h' : ¬ i = n := fun e => h e.symm
      by_cases h2 : i ∈ l <;> simp [h, h', h2]

theorem forget_length : ∀ {l : List Nat} {T : List AV}, (forget l T).length = T.length
  | [], _ => rfl
  | n :: l, T => by simp only [forget]; rw [forget_length (l := l)]; simp

theorem instS_length : ∀ {sl : List (Nat × TV)} {env T : List AV}, (instS nm lens sl env T).length = T.length
  | [], _, _ => rfl
  | (n, tv) :: sl, env, T => by simp only [instS]; rw [instS_length (sl := sl)]; simp

theorem instS_get (hn : Nm Γ Γ' ρ nm) {S : St} {a : Act} (em : Emb Γ S a w) : ∀ {sl : List (Nat × TV)} {q : List Prop} {h : List AV} (rest : List AV) {T : List AV}, readS ρ S.H lens S.T sl = some (q, h) → allP q →
    (∀ (i : Nat) (x : AV), T[i]? = some x → ∃ v, a.tmps[i]? = some v ∧ Ra w Γ' x v) →
    ∀ (i : Nat) (x : AV), (instS nm lens sl (h ++ rest) T)[i]? = some x → ∃ v, a.tmps[i]? = some v ∧ Ra w Γ' x v
  | [], q, h, rest, T, hr, _, hT => hT
  | (n, tv) :: sl, q, h, rest, T, hr, hq, hT => by
    simp only [readS] at hr
    split at hr
    · rename_i p h1 q' r e1 e2
      cases hr
      obtain ⟨hq1, hq2⟩ := allP_app.1 hq
      obtain ⟨hq2, hq3⟩ := allP_app.1 hq2
      simp only [instS, List.append_assoc, drop_holes ((readV_ok e1).length.trans tv.n_eq)]
      refine instS_get hn em rest e2 hq3 fun i x hx => ?_
      rw [List.getElem?_set] at hx
      split at hx
      · rename_i hni
        subst hni
        split at hx
        · rename_i hlt
          cases hx
          obtain ⟨v, hv, _⟩ := hT n T[n] (List.getElem?_eq_getElem hlt)
          refine ⟨v, hv, ?_⟩
          have := ev_tmp em n
          have hg : a.tmps.getD n undef = v := by
            simp [Array.getD_eq_getD_getElem?, hv]
          rw [hg] at this
          exact readV_sound em.heap.blk hn e1 hq2 (peel_sound this hq1) (r ++ rest)
        · cases hx
      · exact hT i x hx
    · cases hr

theorem memO_iff {x : Nat} : ∀ {l : List (Option Nat)}, memO x l = true ↔ some x ∈ l
  | [] => by simp [memO]
  | some y :: l => by simp [memO, memO_iff (l := l)]
  | none :: l => by simp [memO, memO_iff (l := l)]

theorem nodupO_spec : ∀ {l : List (Option Nat)}, nodupO l = true → ∀ (i j b : Nat), l[i]? = some (some b) → l[j]? = some (some b) → i = j
  | [], _, i, _, _, h, _ => by simp at h
  | none :: l, h, i, j, b, hi, hj => by
    simp only [nodupO] at h
    cases i with
    | zero => simp at hi
    | succ i => cases j with
      | zero => simp at hj
      | succ j =>
        simp only [List.getElem?_cons_succ] at hi hj
        rw [nodupO_spec h i j b hi hj]
  | some x :: l, h, i, j, b, hi, hj => by
    simp only [nodupO, Bool.and_eq_true, Bool.not_eq_true'] at h
    have hx : some x ∉ l := fun hm => by rw [memO_iff.2 hm] at h; cases h.1
    cases i with
    | zero =>
      cases j with
      | zero => rfl
      | succ j =>
        simp only [List.getElem?_cons_zero, Option.some.injEq, List.getElem?_cons_succ] at hi hj
        subst hi
        exact absurd (List.mem_of_getElem? hj) hx
    | succ i =>
      cases j with
      | zero =>
        simp only [List.getElem?_cons_zero, Option.some.injEq, List.getElem?_cons_succ] at hi hj
        subst hj
        exact absurd (List.mem_of_getElem? hi) hx
      | succ j =>
        simp only [List.getElem?_cons_succ] at hi hj
        rw [nodupO_spec h.2 i j b hi hj]

theorem rhoL_length : ∀ {bl : List TB} {acc : List (Nat × Nat)} {j : Nat}, (rhoL acc j bl).length = bl.length
  | [], _, _ => rfl
  | _ :: bl, acc, j => by simp only [rhoL, List.length_cons, rhoL_length (bl := bl)]

/-- What was read, under its new names: an embedded heap. K: what is left of the old ones. -/
theorem relabel (em : EmbH Γ H w) {K : List Hs} {A0 : Nat → Prop} (hK : ∀ (b : Nat) (B : Blk), K[b]? ≠ some (Hs.live B)) (hKA : ∀ b, A0 b ↔ ∃ h, K[b]? = some h ∧ h ≠ .free) {bl : List TB} {q : List Prop} {r : List AV} (hr : readBs ρ H lens ρ bl = some (q, r)) (hq : allP q) (hnd : nodupO ρ = true) (rest : List AV) :
    EmbH (Γ.head K.length ρ A0) (K ++ instBs (upFrom K.length ρ.length) lens bl (r ++ rest)) w ∧
    ∀ n, Wr (Γ.head K.length ρ A0) (K ++ instBs (upFrom K.length ρ.length) lens bl (r ++ rest)) n → Wr Γ H n := by
  have hn : Nm Γ (Γ.head K.length ρ A0) ρ (upFrom K.length ρ.length) := Nm.head
  obtain ⟨hrl, hrg⟩ := readBs_get (nm := upFrom K.length ρ.length) rest hr hq
  have hlive : ∀ b B, (K ++ instBs (upFrom K.length ρ.length) lens bl (r ++ rest))[b]? = some (.live B) → ∃ j o, b = K.length + j ∧ ρ[j]? = some o ∧ (∀ c, o = some c → Live H c) ∧ RepB w (Γ.head K.length ρ A0) b B := fun b B hB => by
    rcases Nat.lt_or_ge b K.length with hlt | hge
    · rw [List.getElem?_append_left hlt] at hB
      exact absurd hB (hK b B)
    · rw [List.getElem?_append_right hge] at hB
      obtain ⟨o, tb, p', h', rest', k1, k2, k3, k4⟩ := hrg _ _ hB
      obtain ⟨m1, m2⟩ := readB_sound em.blk hn k1 k2 k3 rest' k4.symm
      have hj := get_lt k1
      rw [nmAt_upFrom hj] at m2
      refine ⟨b - K.length, o, by omega, k1, m1, ?_⟩
      rw [show b = K.length + (b - K.length) by omega]
      exact m2
  have hlive2 : ∀ b, Live (K ++ instBs (upFrom K.length ρ.length) lens bl (r ++ rest)) b → (Γ.head K.length ρ A0).κ b ≠ 0 → ∃ j c, b = K.length + j ∧ ρ[j]? = some (some c) ∧ Live H c ∧ Γ.κ c ≠ 0 ∧ (Γ.head K.length ρ A0).ν b = Γ.ν c := fun b hb hk => by
    obtain ⟨B, hB⟩ := hb
    obtain ⟨j, o, e, k1, k2, k3⟩ := hlive b B hB
    subst e
    have hj := get_lt k1
    cases o with
    | none =>
      have := (hn.no _ k1).2
      rw [nmAt_upFrom hj] at this
      exact absurd this hk
    | some c =>
      obtain ⟨_, g2, g3⟩ := hn.so _ _ k1
      rw [nmAt_upFrom hj] at g2 g3
      exact ⟨j, c, rfl, k1, k2 c rfl, by rw [← g3]; exact hk, g2⟩
  refine ⟨⟨fun b B hB => ?_, fun b b' hb hb' hk hk' he => ?_, fun b hb hk => ?_, em.old, fun b => ?_⟩, fun n hn => ?_⟩
  · obtain ⟨j, o, e, k1, k2, k3⟩ := hlive b B hB
    exact k3
  · obtain ⟨j, c, e1, k1, k2, k0, k3⟩ := hlive2 b hb hk
    obtain ⟨j', c', e1', k1', k2', k0', k3'⟩ := hlive2 b' hb' hk'
    have hcc : c = c' := em.inj c c' k2 k2' k0 k0' (by rw [← k3, ← k3']; exact he)
    subst hcc
    have := nodupO_spec hnd j j' c k1 k1'
    omega
  · obtain ⟨j, c, e1, k1, k2, k0, k3⟩ := hlive2 b hb hk
    rw [k3]
    exact em.imm c k2 k0
  · simp only [Cx.head]
    rcases Nat.lt_or_ge b K.length with hlt | hge
    · rw [List.getElem?_append_left hlt]
      constructor
      · rintro (hA | hA)
        · exact (hKA b).1 hA
        · omega
      · intro h; exact .inl ((hKA b).2 h)
    · rw [List.getElem?_append_right hge]
      constructor
      · rintro (hA | hA)
        · obtain ⟨h, hh, _⟩ := (hKA b).1 hA
          have := get_lt hh
          omega
        · have hlt' : b - K.length < (instBs (upFrom K.length ρ.length) lens bl (r ++ rest)).length := by rw [instBs_length, ← hrl]; omega
          exact ⟨_, List.getElem?_eq_getElem hlt', instBs_live (List.getElem?_eq_getElem hlt')⟩
      · rintro ⟨x, hx, hne⟩
        have := get_lt hx
        rw [instBs_length, ← hrl] at this
        exact .inr ⟨hge, by omega⟩
  · obtain ⟨b, hb, hk, he⟩ := hn
    obtain ⟨j, c, e1, k1, k2, k0, k3⟩ := hlive2 b hb hk
    exact ⟨c, k2, k0, by rw [← k3]; exact he⟩

theorem reload {Γ0 : Cx} {S0 S : St} {a0 a : Act} {w0 : World} (em0 : Emb Γ0 S0 a0 w0) (em : Emb Γ S a w) (hx : Ext Γ0 S0.H w0 Γ S.H w) {asg : List Nat} (hlen : S.T.length = S0.T.length) (hT : ∀ n, n ∉ asg → S.T[n]? = S0.T[n]?)
    {sl : List (Nat × TV)} {bl : List TB} {obs : List Prop} {env : List AV} (hr : readH sl bl S = some (obs, env)) (hob : allP obs) :
    ∃ Γ', Emb Γ' (headS asg sl bl S0 env) a w ∧ Ext Γ0 S0.H w0 Γ' (headS asg sl bl S0 env).H w := by
  simp only [readH] at hr
  have hρl : (rhoL (findB S.H 0 bl (findS S.T sl)) 0 bl).length = bl.length := rhoL_length
  generalize rhoL (findB S.H 0 bl (findS S.T sl)) 0 bl = ρ at hr hρl
  split at hr
  · rename_i hnd
    split at hr
    · rename_i p h q r e1 e2
      cases hr
      obtain ⟨hp, hq⟩ := allP_app.1 hob
      have hdrop : dropE (cntS sl) (h ++ r) = r := drop_holes ((readS_ok e1).length.trans cntS_eq)
      have hle : lensB bl r = lensP S.H ρ bl := by have := lens_eq [] e2; rwa [List.append_nil] at this
      have hA0 : ∀ b, Γ0.A b → b < S0.H.length := fun b hb => by
        obtain ⟨x, hx, _⟩ := (em0.heap.al b).1 hb
        exact lt_of_get hx
      have hAR : ∀ b, Γ0.A b → (Γ.head S0.H.length ρ Γ0.A).A b ∧ (Γ.head S0.H.length ρ Γ0.A).ν b = Γ.ν b ∧ (Γ.head S0.H.length ρ Γ0.A).κ b = Γ.κ b := fun b hb => by
        refine ⟨.inl hb, ?_, ?_⟩ <;> simp only [Cx.head] <;> rw [if_pos (hA0 b hb)]
      have hn : Nm Γ (Γ.head S0.H.length ρ Γ0.A) ρ (upFrom S0.H.length bl.length) := hρl ▸ Nm.head
      have hrl := relabel (K := killH S0.H) (A0 := Γ0.A) em.heap (fun b B hb => (killH_get hb).1 B rfl) (fun b => by
        constructor
        · intro hA
          have hlt' : b < (killH S0.H).length := by rw [killH_length]; exact hA0 b hA
          exact ⟨_, List.getElem?_eq_getElem hlt', (killH_get (List.getElem?_eq_getElem hlt')).2.2 ((em0.heap.al b).1 hA)⟩
        · rintro ⟨x, hx, hne⟩
          exact (em0.heap.al b).2 ((killH_get hx).2.1 hne)) e2 hq hnd []
      rw [killH_length, List.append_nil, hρl] at hrl
      simp only [headS, hdrop, hle]
      refine ⟨Γ.head S0.H.length ρ Γ0.A, ⟨em.defers, ?_, ?_, hrl.1⟩, ?_⟩
      · simp only [headT]
        rw [instS_length, forget_length, em.size, hlen]
      · simp only [headT]
        refine instS_get hn em r e1 hp fun i x hx => ?_
        rw [forget_get] at hx
        split at hx
        · rename_i hi
          cases hi' : S0.T[i]? with
          | none => rw [hi'] at hx; cases hx
          | some y =>
            rw [hi'] at hx
            cases hx
            have hlt : i < a.tmps.size := by rw [em.size, hlen]; exact (List.getElem?_eq_some_iff.1 hi').1
            exact ⟨_, Array.getElem?_eq_getElem hlt, Ra_undef⟩
        · rename_i hi
          obtain ⟨v0, _, hv0⟩ := em0.tmp i x hx
          rw [← hT i hi] at hx
          obtain ⟨v, hv, hv'⟩ := em.tmp i x hx
          exact ⟨v, hv, Rp.shift (Γ := Γ) (Γ' := Γ.head S0.H.length ρ Γ0.A) (Γ0 := Γ0) (fun _ h => h) hAR x _ _ hv0 hv'⟩
      · refine ⟨hx.fr, hx.size, hx.os, hx.out, fun n hn => hx.wr n (hrl.2 n hn), hx.im, hx.mi, fun b hb => ?_⟩
        obtain ⟨g1, g2, g3⟩ := hAR b hb
        obtain ⟨f1, f2, f3⟩ := hx.al b hb
        exact ⟨g1, g2.trans f2, g3.trans f3⟩
    · cases hr
  · cases hr

end
end Go.Ab
