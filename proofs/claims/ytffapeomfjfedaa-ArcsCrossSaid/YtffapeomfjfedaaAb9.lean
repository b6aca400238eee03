/- Soundness, sixth part: stores, new blocks. -/
import Derived.Test.YtffapeomfjfedaaAb8
set_option linter.unusedVariables false
set_option linter.unusedSimpArgs false
namespace Go.Ab

def rowSet (c : Array Value) (o : Nat) (L : List Value) : Array Value := (c.toList.take o ++ L ++ c.toList.drop (o + L.length)).toArray

theorem rowSet_size {c : Array Value} {o : Nat} {L : List Value} (h : o + L.length ≤ c.size) : (rowSet c o L).size = c.size := by
  simp only [rowSet, List.size_toArray, List.length_append, List.length_take, List.length_drop, Array.length_toList]
  omega

theorem rowSet_get {c : Array Value} {o : Nat} {L : List Value} (h : o + L.length ≤ c.size) (k : Nat) :
    (rowSet c o L)[k]? = if o ≤ k ∧ k < o + L.length then L[k - o]? else c[k]? := by
  have hl : (c.toList.take o).length = o := by simp; omega
  simp only [rowSet, List.getElem?_toArray]
  by_cases h1 : k < o
  · rw [if_neg (by omega), List.append_assoc, List.getElem?_append_left (by omega), List.getElem?_take, if_pos h1]
    simp
  · by_cases h2 : k < o + L.length
    · rw [if_pos ⟨by omega, h2⟩, List.getElem?_append_left (by simp; omega), List.getElem?_append_right (by omega), hl]
    · rw [if_neg (by omega), List.getElem?_append_right (by simp; omega)]
      simp only [List.length_append, hl, List.getElem?_drop]
      rw [show o + L.length + (k - (o + L.length)) = k by omega]
      simp

theorem setMany_length {α : Type} : ∀ (l : List α) (i : Nat) (vs : List α), (setMany l i vs).length = l.length
  | l, _, [] => rfl
  | l, i, v :: vs => by simp only [setMany]; rw [setMany_length]; simp

theorem setMany_get {α : Type} : ∀ (vs l : List α) (i : Nat), i + vs.length ≤ l.length → ∀ k, (setMany l i vs)[k]? = if i ≤ k ∧ k < i + vs.length then vs[k - i]? else l[k]?
  | [], l, i, _, k => by simp only [setMany, List.length_nil, Nat.add_zero]; rw [if_neg (by omega)]
  | v :: vs, l, i, h, k => by
    simp only [List.length_cons] at h ⊢
    simp only [setMany]
    rw [setMany_get vs (l.set i v) (i + 1) (by simp; omega) k]
    by_cases h1 : k = i
    · subst h1
      rw [if_neg (by omega), if_pos (by omega), List.getElem?_set]
      simp
      omega
    · by_cases h2 : i + 1 ≤ k ∧ k < i + 1 + vs.length
      · rw [if_pos h2, if_pos (by omega), show k - i = (k - (i + 1)) + 1 by omega, List.getElem?_cons_succ]
      · rw [if_neg h2, if_neg (by omega), List.getElem?_set_ne (fun h => h1 h.symm)]

section
variable {P : Program} {Γ : Cx} {H : List Hs} {w : World} {S : St} {a : Act}

theorem scalarAV_sound {x : AV} {v : Value} (h : scalarAV x = true) (hr : Ra w Γ x v) : v.oneCell' = true := by
  cases x with
  | val t y =>
    simp only [scalarAV, Bool.not_eq_true'] at h
    obtain ⟨cs, hc, hv⟩ := Ra_val.1 hr
    have hl := RepC.length _ _ _ hc
    rw [RepC.one h] at hl
    match cs, hl, hc, hv with
    | [u], _, hc, hv =>
      simp only [mkV, h, Bool.false_eq_true, if_false, List.headD_cons] at hv
      subst hv
      exact RepC.oneCell _ _ _ hc v (by simp)
  | ref b s i o => rw [(Ra_ref.1 hr).2]; rfl
  | sl b s i len c => obtain ⟨_, off, cap, hv, _⟩ := Ra_sl.1 hr; rw [hv]; rfl
  | vsl t xs c => obtain ⟨ad, hv, _⟩ := Ra_vsl.1 hr; rw [hv]; rfl
  | mref b => simp only [Ra, Rp, List.cons.injEq, and_true] at hr; rw [hr.2]; rfl
  | fn f caps => simp only [Ra, Rp, List.cons.injEq, and_true] at hr; obtain ⟨us, hv, _⟩ := hr; rw [hv]; rfl
  | _ => simp [scalarAV] at h

theorem oneCell_cells {v : Value} (h : v.oneCell' = true) : v.cells = #[v] := by cases v <;> simp [Value.oneCell'] at h <;> rfl

theorem isL_sound : ∀ {l : AV} {us : List Value}, isL l = true → Rp w Γ l us → Fa w Γ (ofAV l) us
  | .nil, us, _, h => by simp only [Rp] at h; subst h; trivial
  | .cons x l, us, hl, h => by
    simp only [Rp] at h
    obtain ⟨v, us', rfl, h1, h2⟩ := h
    exact ⟨h1, isL_sound hl h2⟩
  | .undef, _, h, _ => by simp [isL] at h
  | .val .., _, h, _ => by simp [isL] at h
  | .gd .., _, h, _ => by simp [isL] at h
  | .ref .., _, h, _ => by simp [isL] at h
  | .sl .., _, h, _ => by simp [isL] at h
  | .vsl .., _, h, _ => by simp [isL] at h
  | .mref .., _, h, _ => by simp [isL] at h
  | .fn .., _, h, _ => by simp [isL] at h
  | .tup .., _, h, _ => by simp [isL] at h
  | .agg .., _, h, _ => by simp [isL] at h

theorem flatA_one {t : Ty} {x : Den t} {cs : List Value} (ht : isAgg t = false) (h : RepC w Γ.I t x cs) : Fa w Γ [.val t x] cs := by
  have hl := RepC.length _ _ _ h
  rw [RepC.one ht] at hl
  match cs, hl, h with
  | [u], _, h => exact ⟨Ra_val.2 ⟨[u], h, by simp [mkV, ht]⟩, trivial⟩

theorem flatA_sound : ∀ (t : Ty) (x : Den t) (cs : List Value), RepC w Γ.I t x cs → Fa w Γ (flatA t x) cs
  | .unit, x, cs, h => by simp only [RepC] at h; subst h; trivial
  | .prod p q, x, cs, h => by
    simp only [RepC] at h
    obtain ⟨c1, c2, rfl, h1, h2⟩ := h
    exact (flatA_sound p _ _ h1).app (flatA_sound q _ _ h2)
  | .int k, x, cs, h => flatA_one rfl h
  | .bool, x, cs, h => flatA_one rfl h
  | .slice e, x, cs, h => flatA_one rfl h
  | .ptr e, x, cs, h => flatA_one rfl h
  | .optr e, x, cs, h => flatA_one rfl h
  | .map k v, x, cs, h => flatA_one rfl h
  | .oth, x, cs, h => flatA_one rfl h

/-- The cells of a value that is to be stored. -/
theorem cellsOf_sound {t : Ty} {x : AV} {cs : List AV} {v : Value} (h : cellsOf t x = some cs) (hr : Ra w Γ x v) :
    Fa w Γ cs v.cells.toList ∧ cs.length = sz t ∧ ∀ u ∈ v.cells.toList, u.oneCell' = true := by
  unfold cellsOf at h
  split at h
  · rename_i hag
    split at h
    · rename_i t' y
      cases hc : castD t' t y with
      | none => rw [hc] at h; cases h
      | some z =>
        rw [hc] at h
        obtain ⟨rfl, rfl⟩ := castD_eq hc
        simp only [Option.map_some, Option.some.injEq] at h
        subst h
        obtain ⟨L, hL, hv⟩ := Ra_val.1 hr
        simp only [mkV, hag, if_true] at hv
        subst hv
        have hf := flatA_sound _ _ _ hL
        exact ⟨hf, by rw [hf.length, RepC.length _ _ _ hL], RepC.oneCell _ _ _ hL⟩
    · rename_i l
      split at h
      · rename_i hh
        cases h
        simp only [Ra, Rp, List.cons.injEq, and_true] at hr
        obtain ⟨us, hv, hr, ho⟩ := hr
        subst hv
        exact ⟨isL_sound hh.1 hr, hh.2, ho⟩
      · cases h
    · cases h
  · rename_i hag
    have hag : isAgg t = false := by simpa using hag
    split at h
    · rename_i hs
      cases h
      have h1 := scalarAV_sound hs hr
      rw [oneCell_cells h1]
      exact ⟨⟨hr, trivial⟩, by rw [RepC.one hag]; rfl, by simpa using h1⟩
    · cases h

theorem storeVar_run {t : TypeId} {ty : Ty} (ht : tyS P t = some ty) {g off : Nat} {cur : Array Value} {el : TypeId} (hg : w.heap[g]? = some (.cells cur el (0, 0))) {v : Value}
    (hl : v.cells.toList.length = sz ty) (hfit : off + sz ty ≤ cur.size) (h1 : ∀ u ∈ v.cells.toList, u.oneCell' = true) :
    (storeVar t ⟨g, off, none⟩ v).run P w = .ok () (w.setRow g (rowSet cur off v.cells.toList)) := by
  obtain ⟨i, d, hi, hu, hs, ha⟩ := tyS_spec ht
  have hst := run_storeCells_at P g off el v.cells.toList 0 cur w hg (by rw [hl]; simpa using hfit) h1
  simp only [Nat.add_zero] at hst
  unfold storeVar
  have hsz : v.cells.size = i.size := by rw [hs, ← hl]; simp
  simp only [Sem.run_bind, sizeOf, typeInfo, run_program, Result.andThen_ok, hi, Sem.run_pure, hsz, ne_eq, not_true_eq_false, if_false, hst, rowSet]

theorem RepB_cells_set {b j : Nat} {vs cs : List AV} {L : List Value} (hB : RepB w Γ b (.cells vs)) {w' : World} (hw : ∀ n, Γ.I n → w'.heap[n]? = w.heap[n]?) (hA : True)
    {c : Array Value} {el : TypeId} (hc : w.heap[Γ.ν b]? = some (.cells c el (0, 0))) (hc' : w'.heap[Γ.ν b]? = some (.cells (rowSet c j L) el (0, 0)))
    (hf : Fa w Γ cs L) (h1 : ∀ u ∈ L, u.oneCell' = true) (hfit : j + cs.length ≤ vs.length) : RepB w' Γ b (.cells (setMany vs j cs)) := by
  simp only [RepB] at hB ⊢
  obtain ⟨hk0, c0, el0, k1, k2, k3⟩ := hB
  rw [hc] at k1
  cases k1
  have hlen := hf.length
  have hfit' : j + L.length ≤ c.size := by omega
  have mono : ∀ (x : AV) (v : Value), Ra w Γ x v → Ra w' Γ x v := fun x v h => Rp.mono (fun _ h => h) hw (fun _ h => ⟨h, rfl, rfl⟩) x _ h
  refine ⟨hk0, _, el, hc', by rw [rowSet_size hfit', setMany_length]; exact k2, fun i x hx => ?_⟩
  rw [setMany_get cs vs j hfit i] at hx
  rw [rowSet_get hfit']
  split at hx
  · rename_i hr
    rw [if_pos (by omega)]
    obtain ⟨v, hv, hrv⟩ := hf.get (i - j) x hx
    exact ⟨v, hv, h1 v (List.mem_of_getElem? hv), mono x v hrv⟩
  · rename_i hr
    rw [if_neg (by omega)]
    obtain ⟨v, hv, ho, hrv⟩ := k3 i x hx
    exact ⟨v, hv, ho, mono x v hrv⟩

theorem RepB_arr_set {b i : Nat} {te : Ty} {xs : List (Den te)} {opn : Bool} {x : Den te} {L : List Value} (hB : RepB w Γ b (.arr te xs opn)) {w' : World} (hw : ∀ n, Γ.I n → w'.heap[n]? = w.heap[n]?)
    {c : Array Value} {el : TypeId} (hc : w.heap[Γ.ν b]? = some (.cells c el (0, 0))) (hc' : w'.heap[Γ.ν b]? = some (.cells (rowSet c (i * sz te) L) el (0, 0)))
    (hx : RepC w Γ.I te x L) (hi : i < xs.length) : RepB w' Γ b (.arr te (xs.set i x) opn) := by
  simp only [RepB] at hB ⊢
  obtain ⟨k3, k4, hB⟩ := hB
  obtain ⟨c0, el0, k1, k2, k5⟩ := hB (by omega)
  rw [hc] at k1
  cases k1
  have hlen := RepC.length _ _ _ hx
  have hle : (i + 1) * sz te ≤ Γ.κ b * sz te := Nat.mul_le_mul_right _ (by omega)
  have hfit : i * sz te + L.length ≤ c.size := by rw [Nat.succ_mul] at hle; omega
  refine ⟨by simpa using k3, by simpa using k4, fun _ => ⟨_, el, hc', by rw [rowSet_size hfit]; exact k2, fun j y hy => ?_⟩⟩
  by_cases hij : i = j
  · subst hij
    rw [List.getElem?_set] at hy
    simp only [if_true, hi] at hy
    cases hy
    refine ⟨L, RepC.mono (fun _ h => h) hw te x L hx, fun k v hk => ?_⟩
    have hlt : k < L.length := by
      rcases Nat.lt_or_ge k L.length with h | h
      · exact h
      · rw [List.getElem?_eq_none h] at hk; cases hk
    rw [rowSet_get hfit, if_pos (by omega), show i * sz te + k - i * sz te = k by omega]
    exact hk
  · rw [List.getElem?_set_ne hij] at hy
    obtain ⟨cs, g1, g2⟩ := k5 j y hy
    refine ⟨cs, RepC.mono (fun _ h => h) hw te y cs g1, fun k v hk => ?_⟩
    have hl2 := RepC.length _ _ _ g1
    have hlt : k < cs.length := by
      rcases Nat.lt_or_ge k cs.length with h | h
      · exact h
      · rw [List.getElem?_eq_none h] at hk; cases hk
    rw [rowSet_get hfit, if_neg]
    · exact g2 k v hk
    · rintro ⟨q1, q2⟩
      rcases Nat.lt_or_gt_of_ne hij with h | h
      · have : (i + 1) * sz te ≤ j * sz te := Nat.mul_le_mul_right _ h
        rw [Nat.succ_mul] at this; omega
      · have : (j + 1) * sz te ≤ i * sz te := Nat.mul_le_mul_right _ h
        rw [Nat.succ_mul] at this; omega

theorem flatS_leaf {te t : Ty} {x : Den t} {L : List Value} (hh : homog te t = true) (ht : isAgg t = false) (h : RepC w Γ.I t x L) :
    (flatS te t x).length = L.length ∧ ∀ (k : Nat) (y : Den te), (flatS te t x)[k]? = some y → ∃ v, L[k]? = some v ∧ RepC w Γ.I te y [v] := by
  have e := homog_leaf hh ht
  subst e
  have e : flatS t t x = [x] := by cases t <;> first | (simp [isAgg] at ht; done) | (simp only [flatS, castD_self])
  have hl := RepC.length _ _ _ h
  rw [RepC.one ht] at hl
  rw [e]
  match L, hl, h with
  | [u], _, h =>
    refine ⟨rfl, fun k y hy => ?_⟩
    cases k with
    | zero => simp at hy; subst hy; exact ⟨u, rfl, h⟩
    | succ k => simp at hy

/-- Flat data: one cell an element. -/
theorem flatS_sound (te : Ty) : ∀ (t : Ty) (x : Den t) (L : List Value), homog te t = true → sz te = 1 → RepC w Γ.I t x L →
    (flatS te t x).length = L.length ∧ ∀ (k : Nat) (y : Den te), (flatS te t x)[k]? = some y → ∃ v, L[k]? = some v ∧ RepC w Γ.I te y [v]
  | .unit, x, L, _, _, h => by simp only [RepC] at h; subst h; exact ⟨rfl, fun k y hy => by simp [flatS] at hy⟩
  | .prod p q, x, L, hh, h1, h => by
    have hh' : homog te p = true ∧ homog te q = true := by simpa only [homog, Bool.and_eq_true] using hh
    simp only [RepC] at h
    obtain ⟨c1, c2, rfl, g1, g2⟩ := h
    obtain ⟨a1, a2⟩ := flatS_sound te p x.1 c1 hh'.1 h1 g1
    obtain ⟨b1, b2⟩ := flatS_sound te q x.2 c2 hh'.2 h1 g2
    refine ⟨by simp [flatS, a1, b1], fun k y hy => ?_⟩
    change (flatS te p x.1 ++ flatS te q x.2)[k]? = some y at hy
    rcases Nat.lt_or_ge k c1.length with hk | hk
    · rw [List.getElem?_append_left (by omega)] at hy
      obtain ⟨v, hv, hr⟩ := a2 k y hy
      exact ⟨v, by rw [List.getElem?_append_left hk]; exact hv, hr⟩
    · rw [List.getElem?_append_right (by omega), a1] at hy
      obtain ⟨v, hv, hr⟩ := b2 _ y hy
      exact ⟨v, by rw [List.getElem?_append_right hk]; exact hv, hr⟩
  | .int k, x, L, hh, h1, h => flatS_leaf hh rfl h
  | .bool, x, L, hh, h1, h => flatS_leaf hh rfl h
  | .slice e, x, L, hh, h1, h => flatS_leaf hh rfl h
  | .ptr e, x, L, hh, h1, h => flatS_leaf hh rfl h
  | .optr e, x, L, hh, h1, h => flatS_leaf hh rfl h
  | .map k v, x, L, hh, h1, h => flatS_leaf hh rfl h
  | .oth, x, L, hh, h1, h => flatS_leaf hh rfl h

theorem RepB_arr_many {b i : Nat} {te : Ty} {xs ys : List (Den te)} {opn : Bool} {L : List Value} (hB : RepB w Γ b (.arr te xs opn)) (h1 : sz te = 1) {w' : World} (hw : ∀ n, Γ.I n → w'.heap[n]? = w.heap[n]?)
    {c : Array Value} {el : TypeId} (hc : w.heap[Γ.ν b]? = some (.cells c el (0, 0))) (hc' : w'.heap[Γ.ν b]? = some (.cells (rowSet c i L) el (0, 0)))
    (hx : ys.length = L.length ∧ ∀ (k : Nat) (y : Den te), ys[k]? = some y → ∃ v, L[k]? = some v ∧ RepC w Γ.I te y [v]) (hi : i + L.length ≤ xs.length) : RepB w' Γ b (.arr te (setMany xs i ys) opn) := by
  simp only [RepB] at hB ⊢
  obtain ⟨k3, k4, hB⟩ := hB
  refine ⟨by rw [setMany_length]; exact k3, by rw [setMany_length]; exact k4, fun hk0 => ?_⟩
  obtain ⟨c0, el0, k1, k2, k5⟩ := hB hk0
  rw [hc] at k1
  cases k1
  rw [h1] at k2
  have hfit : i + L.length ≤ c.size := by omega
  refine ⟨_, el, hc', by rw [rowSet_size hfit, h1]; exact k2, fun j y hy => ?_⟩
  rw [setMany_get ys xs i (by omega) j] at hy
  split at hy
  · rename_i hr
    obtain ⟨v, hv, hrc⟩ := hx.2 _ y hy
    refine ⟨[v], RepC.mono (fun _ h => h) hw te y _ hrc, fun k u hk => ?_⟩
    cases k with
    | zero =>
      simp at hk; subst hk
      rw [rowSet_get hfit, h1, if_pos (by omega)]
      simpa using hv
    | succ k => simp at hk
  · rename_i hr
    obtain ⟨cs, g1, g2⟩ := k5 j y hy
    refine ⟨cs, RepC.mono (fun _ h => h) hw te y cs g1, fun k u hk => ?_⟩
    have hl2 := RepC.length _ _ _ g1
    have hlt : k < cs.length := by
      rcases Nat.lt_or_ge k cs.length with h | h
      · exact h
      · rw [List.getElem?_eq_none h] at hk; cases hk
    rw [rowSet_get hfit, if_neg (by rw [h1] at hl2 ⊢; omega)]
    exact g2 k u hk

theorem Does.skip {e : Ef} {r : Result Next} {w' : World} {Γ' : Cx} {H' : List Hs} (h : r = .ok .skip w') (hup : putUp H e.up = H') (hx : EmbH Γ' H' w' ∧ Ext Γ H w Γ' H' w') (hr : Ra w' Γ' e.v undef) : Does P Γ H w e r :=
  .inl ⟨undef, w', Γ', .inr ⟨h, rfl⟩, by rw [hup]; exact hx.2, by rw [hup]; exact hx.1, hr⟩

theorem Does.new {e : Ef} {r : Result Next} {v : Value} {w' : World} {Γ' : Cx} {H' : List Hs} (h : r = .ok (.value v) w') (hup : putUp H e.up = H') (hx : EmbH Γ' H' w' ∧ Ext Γ H w Γ' H' w') (hr : Ra w' Γ' e.v v) : Does P Γ H w e r :=
  .inl ⟨v, w', Γ', .inl h, by rw [hup]; exact hx.2, by rw [hup]; exact hx.1, hr⟩

theorem setRow_old {g : Nat} {cs : Array Value} {n : Nat} (h : n ≠ g) : (w.setRow g cs).heap[n]? = w.heap[n]? := setRow_other w g n cs h

theorem EmbH.setRow {b : Nat} {B B' : Blk} (e : EmbH Γ H w) (hb : H[b]? = some (.live B)) (hkb : Γ.κ b ≠ 0) {cs : Array Value} (hB : RepB (w.setRow (Γ.ν b) cs) Γ b B') :
    EmbH Γ (H.set b (.live B')) (w.setRow (Γ.ν b) cs) ∧ Ext Γ H w Γ (H.set b (.live B')) (w.setRow (Γ.ν b) cs) :=
  e.write hb hkb (fun n hn => setRow_old hn) (by simp) rfl rfl hB

theorem does_store (em : Emb Γ S a w) (sp : Spec) (base : Nat) {tx tv : Option Ty} {x y : Operand} {x' y' : Od} (hx : cOd tx x = some x') (hy : cOd tv y = some y') {t : TypeId} {ty : Ty} (ht : tyS P t = some ty)
    {o : Oper} (ho : o.op = .store t x y)
    (hob : allP (aeff sp base S.T S.H (.store ty x' y')).ob) : Does P Γ S.H w (aeff sp base S.T S.H (.store ty x' y')) ((execOp a.eval o).run P w) := by
  have r1 := cOd_sound em hx
  have r2 := cOd_sound em hy
  rw [aeff] at hob ⊢
  have hob0 := p1_ob hob
  clear hob
  obtain ⟨p, hob⟩ := hob0
  have r1 := peel_sound r1 p
  revert hob
  dsimp only [p1]
  generalize (peel (ev S.T x')).2 = X at r1
  intro hob
  cases X with
  | ref b s i o' =>
    obtain ⟨h3, hv⟩ := Ra_ref.1 r1
    simp only at hob ⊢
    have hob0 := allP_app.1 hob
    clear hob
    obtain ⟨q, hob⟩ := hob0
    have r2 := peel_sound r2 q
    revert hob
    generalize (peel (ev S.T y')).2 = Y at r2
    intro hob
    cases hg : hget S.H b with
    | none => rw [hg] at hob; exact fail_elim hob
    | some B =>
      have hH := hget_eq hg
      have hB := em.heap.blk b B hH
      rw [hg] at hob
      have hrun : ∀ (cur : Array Value) el, w.heap[Γ.ν b]? = some (.cells cur el (0, 0)) → (a.eval y).cells.toList.length = sz ty → i * s + o' + sz ty ≤ cur.size → (∀ u ∈ (a.eval y).cells.toList, u.oneCell' = true) →
          (execOp a.eval o).run P w = .ok .skip (w.setRow (Γ.ν b) (rowSet cur (i * s + o') (a.eval y).cells.toList)) := fun cur el g1 g2 g3 g4 => by
        simp only [execOp, ho, hv, Instr.storeAt, Instr.sureAddr, Sem.run_bind, Sem.run_pure, Result.andThen_ok, storeVar_run ht g1 g2 g3 g4]
      cases B with
      | cells vs =>
        simp only at hob ⊢
        cases hcs : cellsOf ty Y with
        | none => rw [hcs] at hob; exact fail_elim hob
        | some cs =>
          rw [hcs] at hob
          simp only at hob ⊢
          split at hob
          · rename_i hfit
            obtain ⟨f1, f2, f3⟩ := cellsOf_sound hcs r2
            have hB' := hB
            simp only [RepB] at hB'
            obtain ⟨hk0, c, el, k1, k2, k3⟩ := hB'
            have hl := f1.length
            have hold : ∀ n, Γ.I n → (w.setRow (Γ.ν b) (rowSet c (i * s + o') (a.eval y).cells.toList)).heap[n]? = w.heap[n]? := fun n hn =>
              setRow_old fun h => em.heap.imm b ⟨_, hH⟩ hk0 (h ▸ hn)
            rw [if_pos hfit]
            refine Does.skip (hrun c el k1 (by omega) (by omega) f3) rfl (em.heap.setRow hH hk0 ?_) Ra_undef
            exact RepB_cells_set hB hold trivial k1 (setRow_heap w _ c _ el _ k1) f1 f3 (by omega)
          · exact fail_elim hob
      | arr te xs opn =>
        simp only at hob ⊢
        by_cases hs : s = sz te ∧ o' = 0
        · rw [if_pos hs] at hob ⊢
          obtain ⟨hs, h0⟩ := hs
          subst h0
          cases Y with
          | val t' z =>
            simp only at hob ⊢
            by_cases htt : t' = ty
            · rw [if_pos htt] at hob ⊢
              subst htt
              obtain ⟨L, hL, hv2⟩ := Ra_val.1 r2
              have hcl : (a.eval y).cells.toList = L := by
                rw [hv2]
                unfold mkV
                cases hag : isAgg t' with
                | true => rfl
                | false =>
                  have hl := RepC.length _ _ _ hL
                  rw [RepC.one hag] at hl
                  match L, hl, hL with
                  | [u], _, hL =>
                    simp only [Bool.false_eq_true, if_false, List.headD_cons]
                    rw [oneCell_cells (RepC.oneCell _ _ _ hL u (by simp))]
              have hlen := RepC.length _ _ _ hL
              have hB' := hB
              simp only [RepB] at hB'
              obtain ⟨k3, k4, hB'⟩ := hB'
              by_cases hk0 : Γ.κ b ≠ 0
              rotate_left
              · have hx0 : xs.length = 0 := by omega
                cases hc : castD t' te z with
                | some z' => rw [hc] at hob; have := allP_one.1 hob; omega
                | none =>
                  rw [hc] at hob
                  simp only at hob ⊢
                  by_cases hcond : (sz te = 1 ∧ 0 < sz t') ∧ homog te t' = true
                  · rw [if_pos hcond] at hob
                    have hle : i + sz t' ≤ xs.length := allP_one.1 hob
                    have := hcond.1.2
                    omega
                  · rw [if_neg hcond] at hob; exact fail_elim hob
              obtain ⟨c, el, k1, k2, k5⟩ := hB' hk0
              rw [hcl] at hrun
              have hold : ∀ n, Γ.I n → (w.setRow (Γ.ν b) (rowSet c (i * s + 0) L)).heap[n]? = w.heap[n]? := fun n hn =>
                setRow_old fun h => em.heap.imm b ⟨_, hH⟩ hk0 (h ▸ hn)
              cases hc : castD t' te z with
              | some z' =>
                rw [hc] at hob
                obtain ⟨rfl, rfl⟩ := castD_eq hc
                have hlt := allP_one.1 hob
                have hle : (i + 1) * sz t' ≤ Γ.κ b * sz t' := Nat.mul_le_mul_right _ (by omega)
                rw [Nat.succ_mul] at hle
                refine Does.skip (hrun c el k1 hlen (by rw [hs]; omega) (RepC.oneCell _ _ _ hL)) rfl (em.heap.setRow hH hk0 ?_) Ra_undef
                exact RepB_arr_set hB hold k1 (by rw [← hs]; exact setRow_heap w _ c _ el _ k1) hL hlt
              | none =>
                rw [hc] at hob
                simp only at hob ⊢
                by_cases hcond : (sz te = 1 ∧ 0 < sz t') ∧ homog te t' = true
                · rw [if_pos hcond] at hob ⊢
                  have hle := allP_one.1 hob
                  replace hcond : sz te = 1 ∧ homog te t' = true := ⟨hcond.1.1, hcond.2⟩
                  have hfl := flatS_sound (w := w) (Γ := Γ) te t' z L hcond.2 hcond.1 hL
                  refine Does.skip (hrun c el k1 hlen (by rw [hs, hcond.1]; rw [hcond.1] at k2; omega) (RepC.oneCell _ _ _ hL)) rfl (em.heap.setRow hH hk0 ?_) Ra_undef
                  exact RepB_arr_many hB hcond.1 hold k1 (by rw [hs, hcond.1]; simpa using setRow_heap w _ c _ el _ k1) hfl (by omega)
                · rw [if_neg hcond] at hob; exact fail_elim hob
            · rw [if_neg htt] at hob; exact fail_elim hob
          | _ => exact fail_elim hob
        · rw [if_neg hs] at hob; exact fail_elim hob
      | map k v es => exact fail_elim hob
  | _ => exact fail_elim hob

end
end Go.Ab
