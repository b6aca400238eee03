/- Soundness, ninth part: slices of arrays, min and max, literals. -/
import Derived.Test.YtffapeomfjfedaaAb11
set_option linter.unusedVariables false
set_option linter.unusedSimpArgs false
namespace Go.Ab

section
variable {P : Program} {Γ : Cx} {H : List Hs} {w : World} {S : St} {a : Act}

theorem arr_listAt {I : Nat → Prop} {n : Nat} {te : Ty} {z : Den (arrT n te)} {b off : Nat} {c : List Value} (h1 : I b) (h2 : RepC w I (arrT n te) z c) (h3 : CellsAt w b off c) :
    ListAt w I te (arrList n te z) (some ⟨b, off, none⟩) := by
  intro i x hx
  obtain ⟨_, g2⟩ := arrList_sound n z c h2
  exact ⟨b, off, _, rfl, h1, g2 i x hx, h3.part _ _⟩

theorem does_sla (em : Emb Γ S a w) (sp : Spec) (base : Nat) {tx : Option Ty} {x : Operand} {x' : Od} (hx : cOd tx x = some x') {lo hi : Option Operand} {lo' hi' : Option Od} (hlo : cOpt lo = some lo') (hhi : cOpt hi = some hi')
    {t e : TypeId} {te : Ty} {n : Nat} (hu : P.underlying t = some (.array n e)) (ht : tyS P e = some te)
    {o : Oper} (ho : o.op = .slice t x lo hi none)
    (hob : allP (aeff sp base S.T S.H (.sla n te x' lo' hi')).ob) : Does P Γ S.H w (aeff sp base S.T S.H (.sla n te x' lo' hi')) ((execOp a.eval o).run P w) := by
  have r1 := cOd_sound em hx
  obtain ⟨inf, d, hinf, _, hsz, _⟩ := tyS_spec ht
  rw [aeff] at hob ⊢
  cases h1 : optI S.T lo' with
  | none => rw [h1] at hob; exact fail_elim hob
  | some u1 => cases h2 : optI S.T hi' with
    | none => rw [h1, h2] at hob; exact fail_elim hob
    | some u2 =>
      obtain ⟨p1', l⟩ := u1
      obtain ⟨p2', h⟩ := u2
      rw [h1, h2] at hob
      simp only at hob ⊢
      have hob0 := p1_ob hob
      clear hob
      obtain ⟨p, hob⟩ := hob0
      have r1 := peel_sound r1 p
      revert hob
      dsimp only [p1]
      generalize (peel (ev S.T x')).2 = X at r1
      have hrun : ∀ {b off lN hN}, a.eval x = .pointer (some ⟨b, off, none⟩) → bnd (hi.map a.eval) n hN → hN ≤ n → bnd (lo.map a.eval) 0 lN → lN ≤ hN →
          (execOp a.eval o).run P w = .ok (.value (.slice (some (if n = lN then ⟨b, off, none⟩ else ⟨b, off + lN * sz te, none⟩)) (hN - lN) (n - lN))) w := fun {b off lN hN} hv a3 a5 a6 a7 => by
        have := slice_arr_run (P := P) (w := w) hu hinf (b := b) (off := off) a3 a5 a6 a7
        rw [hsz] at this
        simp only [execOp, ho, hv, Sem.run_bind, Option.map_none, this, Result.andThen_ok, Sem.run_pure]
      have allq : ∀ {q : Prop}, allP (p1' ++ p2' ++ [q]) → allP p1' ∧ allP p2' ∧ q := fun hq => by
        obtain ⟨hq1, hq2⟩ := allP_app.1 hq
        obtain ⟨hq3, hq4⟩ := allP_app.1 hq1
        exact ⟨hq3, hq4, allP_one.1 hq2⟩
      intro hob
      cases X with
      | val T y =>
        cases T with
        | ptr T =>
          simp only at hob ⊢
          cases hc : castD T (arrT n te) y with
          | none => rw [hc] at hob; exact fail_elim hob
          | some z =>
            rw [hc] at hob
            simp only at hob ⊢
            obtain ⟨e1, e2⟩ := castD_eq hc
            subst e1
            have e2 : z = y := e2
            subst e2
            obtain ⟨b, off, c, hv, g1, g2, g3⟩ := RepV_ptr.1 (Ra_val.1 r1)
            have hL := arr_listAt g1 g2 g3
            have hlen := (arrList_sound n _ c g2).1
            have key : ∀ {lN hN : Nat}, lN ≤ hN → hN ≤ n → Ra w Γ (.val (.slice te) (((arrList n te z).take hN).drop lN)) (.slice (some (if n = lN then ⟨b, off, none⟩ else ⟨b, off + lN * sz te, none⟩)) (hN - lN) (n - lN)) := fun {lN hN} b1 b2 => by
              refine Ra_val.2 (RepV_slice.2 ⟨some (if n = lN then ⟨b, off, none⟩ else ⟨b, off + lN * sz te, none⟩), n - lN, ?_, ?_, by simp, ?_⟩)
              · rw [List.length_drop, List.length_take, hlen, Nat.min_eq_left b2]
              · rw [List.length_drop, List.length_take, hlen, Nat.min_eq_left b2]; omega
              · have := hL.sub b1 b2
                have e : (if n = lN then some (⟨b, off, none⟩ : Addr) else (some ⟨b, off, none⟩ : Option Addr).map (·.add (lN * sz te))) = some (if n = lN then ⟨b, off, none⟩ else ⟨b, off + lN * sz te, none⟩) := by
                  split
                  · rfl
                  · simp [addr_add]
                rw [← e]
                exact this
            cases l with
            | none => cases h with
              | none =>
                obtain ⟨q1, q2⟩ := allP_app.1 hob
                obtain ⟨rfl, _⟩ := (optI_sound em hlo h1 q1).resolve_right (by simp)
                obtain ⟨rfl, _⟩ := (optI_sound em hhi h2 q2).resolve_right (by simp)
                have := key (lN := 0) (hN := n) (Nat.zero_le _) (Nat.le_refl _)
                refine Does.val em.heap (hrun (lN := 0) (hN := n) hv (.inl ⟨rfl, rfl⟩) (Nat.le_refl _) (.inl ⟨rfl, rfl⟩) (Nat.zero_le _)) rfl ?_
                rw [List.take_of_length_le (by omega)] at this
                simpa [Ef.when] using this
              | some h =>
                obtain ⟨q1, q2, q4⟩ := allq hob
                obtain ⟨rfl, _⟩ := (optI_sound em hlo h1 q1).resolve_right (by simp)
                have b2 := bnd_of (d := n) (optI_sound em hhi h2 q2) (fun m hm => by cases hm; exact q4.1)
                have := key (lN := 0) (hN := h.toNat) (Nat.zero_le _) (by omega)
                exact Does.val em.heap (hrun (lN := 0) (hN := h.toNat) hv b2 (by omega) (.inl ⟨rfl, rfl⟩) (Nat.zero_le _)) rfl (by simpa [Ef.when] using this)
            | some l => cases h with
              | none =>
                obtain ⟨q1, q2, q4⟩ := allq hob
                obtain ⟨rfl, _⟩ := (optI_sound em hhi h2 q2).resolve_right (by simp)
                have b1 := bnd_of (d := 0) (optI_sound em hlo h1 q1) (fun m hm => by cases hm; exact q4.1)
                have := key (lN := l.toNat) (hN := n) (by omega) (Nat.le_refl _)
                rw [List.take_of_length_le (by omega)] at this
                exact Does.val em.heap (hrun (lN := l.toNat) (hN := n) hv (.inl ⟨rfl, rfl⟩) (Nat.le_refl _) b1 (by omega)) rfl (by simpa [Ef.when] using this)
              | some h => exact fail_elim hob
        | _ => exact fail_elim hob
      | ref b s i o' =>
        simp only at hob ⊢
        by_cases hs : s = sz te ∧ o' = 0
        · rw [if_pos hs] at hob ⊢
          obtain ⟨hs, h0⟩ := hs
          subst h0
          obtain ⟨hA, hv⟩ := Ra_ref.1 r1
          have key : ∀ {lN hN : Nat}, lN ≤ hN → hN ≤ n → Ra w Γ (.sl b s (i + lN) (hN - lN) (some (n - lN))) (.slice (some (if n = lN then ⟨Γ.ν b, i * s + 0, none⟩ else ⟨Γ.ν b, i * s + 0 + lN * sz te, none⟩)) (hN - lN) (n - lN)) := fun {lN hN} b1 b2 => by
            refine Ra_sl.2 ⟨hA, _, n - lN, rfl, rfl, ?_, by omega⟩
            intro hne
            rw [if_neg (by omega), Nat.add_mul, hs]; rfl
          cases l with
          | none => cases h with
            | none =>
              obtain ⟨q1, q2⟩ := allP_app.1 hob
              obtain ⟨rfl, _⟩ := (optI_sound em hlo h1 q1).resolve_right (by simp)
              obtain ⟨rfl, _⟩ := (optI_sound em hhi h2 q2).resolve_right (by simp)
              have := key (lN := 0) (hN := n) (Nat.zero_le _) (Nat.le_refl _)
              exact Does.val em.heap (hrun (lN := 0) (hN := n) hv (.inl ⟨rfl, rfl⟩) (Nat.le_refl _) (.inl ⟨rfl, rfl⟩) (Nat.zero_le _)) rfl (by simpa [Ef.when] using this)
            | some h =>
              obtain ⟨q1, q2, q4⟩ := allq hob
              obtain ⟨rfl, _⟩ := (optI_sound em hlo h1 q1).resolve_right (by simp)
              have b2 := bnd_of (d := n) (optI_sound em hhi h2 q2) (fun m hm => by cases hm; exact q4.1)
              have := key (lN := 0) (hN := h.toNat) (Nat.zero_le _) (by omega)
              exact Does.val em.heap (hrun (lN := 0) (hN := h.toNat) hv b2 (by omega) (.inl ⟨rfl, rfl⟩) (Nat.zero_le _)) rfl (by simpa [Ef.when] using this)
          | some l => cases h with
            | none =>
              obtain ⟨q1, q2, q4⟩ := allq hob
              obtain ⟨rfl, _⟩ := (optI_sound em hhi h2 q2).resolve_right (by simp)
              have b1 := bnd_of (d := 0) (optI_sound em hlo h1 q1) (fun m hm => by cases hm; exact q4.1)
              have := key (lN := l.toNat) (hN := n) (by omega) (Nat.le_refl _)
              exact Does.val em.heap (hrun (lN := l.toNat) (hN := n) hv (.inl ⟨rfl, rfl⟩) (Nat.le_refl _) b1 (by omega)) rfl (by simpa [Ef.when] using this)
            | some h => exact fail_elim hob
        · rw [if_neg hs] at hob; exact fail_elim hob
      | _ => exact fail_elim hob

theorem mm_fold (em : Emb Γ S a w) (mx : Bool) (k : IntKind) : ∀ {tys : List (Option Ty)} {xs : List Operand} {l : List Od}, cOds tys xs = some l → ∀ {m r : Int} {p : List Prop}, mmAll mx k S.T m l = some (p, r) → allP p →
    ((xs.map a.eval).foldlM (if mx then Builtin.max2 else Builtin.min2) (.int k m)).run P w = .ok (.int k r) w
  | _, [], l, h, m, r, p, hm, _ => by
    simp only [cOds, Option.some.injEq] at h; subst h
    simp only [mmAll, Option.some.injEq, Prod.mk.injEq] at hm
    rw [hm.2]; rfl
  | tys, x :: xs, l, h, m, r, p, hm, hp => by
    simp only [cOds] at h
    split at h
    · rename_i y ys h1 h2
      cases h
      simp only [mmAll] at hm
      split at hm
      · rename_i k' b hb
        split at hm
        · rename_i q c hq
          split at hm
          · rename_i hk
            subst hk
            cases hm
            obtain ⟨hp1, hp2⟩ := allP_app.1 hp
            have hv := asInt_sound hb (peel_sound (cOd_sound em h1) hp1)
            have ih := mm_fold em mx k h2 hq hp2
            simp only [List.map_cons, List.foldlM_cons, hv, Sem.run_bind]
            cases mx
            · simp only [Bool.false_eq_true, if_false] at ih ⊢
              simp only [Builtin.min2, Sem.run_pure, Result.andThen_ok]
              exact ih
            · simp only [if_true] at ih ⊢
              simp only [Builtin.max2, Sem.run_pure, Result.andThen_ok]
              exact ih
          · cases hm
        · cases hm
      · cases hm
    · cases h

theorem does_mm (em : Emb Γ S a w) (sp : Spec) (base : Nat) {mx : Bool} {tys : List (Option Ty)} {xs : List Operand} {y : Od} {ys : List Od} (hx : cOds tys xs = some (y :: ys))
    {o : Oper} (ho : (execOp a.eval o).run P w = ((match xs.map a.eval with | [] => stuck "" | v :: r => r.foldlM (if mx then Builtin.max2 else Builtin.min2) v : Sem Value).run P w).andThen fun v w' => .ok (.value v) w')
    (hob : allP (aeff sp base S.T S.H (.mm mx y ys)).ob) : Does P Γ S.H w (aeff sp base S.T S.H (.mm mx y ys)) ((execOp a.eval o).run P w) := by
  cases xs with
  | nil => simp [cOds] at hx
  | cons x xs =>
    simp only [cOds] at hx
    split at hx
    · rename_i y' ys' h1 h2
      cases hx
      have r1 := cOd_sound em h1
      rw [aeff] at hob ⊢
      have hob0 := p1_ob hob
      clear hob
      obtain ⟨p, hob⟩ := hob0
      have r1 := peel_sound r1 p
      revert hob
      dsimp only [p1]
      generalize (peel (ev S.T y)).2 = X at r1
      cases hI : asInt X with
      | none => exact fun hob => fail_elim hob
      | some u =>
        obtain ⟨k, m⟩ := u
        simp only
        cases hm : mmAll mx k S.T m ys with
        | none => exact fun hob => fail_elim hob
        | some v =>
          obtain ⟨q, r⟩ := v
          intro hob
          refine Does.val em.heap (v := .int k r) ?_ rfl (Ra_int.2 rfl)
          rw [ho]
          simp only [List.map_cons, asInt_sound hI r1]
          rw [mm_fold em mx k h2 hm hob]
          rfl
    · cases hx

/-! ### Literals -/

theorem fillS_sound (em : Emb Γ S a w) {te : Ty} : ∀ {ps : List (Nat × Operand)} {n : Nat} {l : List Od} {q : List Prop} {xs : List (Den te)}, cPartsS te n ps = some l → bsList te S.T l = some (q, xs) → allP q →
    xs.length = ps.length ∧ ∀ (cells : Array Value), (n + ps.length) * sz te ≤ cells.size →
      ∃ cells' L, Instr.fill (fun i => some (i * sz te, sz te)) cells (ps.map fun p => (p.1, a.eval p.2)) = some cells' ∧ cells' = rowSet cells (n * sz te) L ∧ L.length = ps.length * sz te ∧
        ∀ (i : Nat) (x : Den te), xs[i]? = some x → RepC w Γ.I te x ((L.drop (i * sz te)).take (sz te))
  | [], n, l, q, xs, h, hb, _ => by
    simp only [cPartsS, Option.some.injEq] at h; subst h
    simp only [bsList, Option.some.injEq, Prod.mk.injEq] at hb
    obtain ⟨_, rfl⟩ := hb
    refine ⟨rfl, fun cells hc => ⟨cells, [], rfl, ?_, by simp, fun i x hx => by simp at hx⟩⟩
    simp only [List.length_nil, Nat.add_zero] at hc
    apply Array.ext_getElem?
    intro i
    rw [rowSet_get (by simpa using hc), if_neg (by simp)]
  | (i, x) :: ps, n, l, q, xs, h, hb, hq => by
    simp only [cPartsS] at h
    split at h
    · rename_i od l' h1 h2
      split at h
      · rename_i hin
        subst hin
        cases h
        simp only [bsList] at hb
        split at hb
        · rename_i p t' y q' ys he hr
          split at hb
          · rename_i z hc
            cases hb
            obtain ⟨hp1, hp2⟩ := allP_app.1 hq
            obtain ⟨ih1, ih2⟩ := fillS_sound em h2 hr hp2
            have r := cOd_sound em h1
            have r := peel_sound r (by rw [he]; exact hp1)
            rw [he] at r
            obtain ⟨e1, e2⟩ := castD_eq hc
            subst e1
            subst e2
            obtain ⟨cs, hcs, hv⟩ := Ra_val.1 r
            have hlen := RepC.length _ _ _ hcs
            have hcell : (a.eval x).cells.toList = cs := by
              rw [hv]
              unfold mkV
              cases hag : isAgg t' with
              | true => rfl
              | false =>
                rw [RepC.one hag] at hlen
                match cs, hlen, hcs with
                | [u], _, hcs =>
                  simp only [Bool.false_eq_true, if_false, List.headD_cons]
                  rw [oneCell_cells (RepC.oneCell _ _ _ hcs u (by simp))]
            have hsize : (a.eval x).cells.size = sz t' := by rw [← hlen, ← hcell]; simp
            refine ⟨by simp [ih1], fun cells hfit => ?_⟩
            simp only [List.length_cons] at hfit
            have hfit1 : (i + 1) * sz t' ≤ cells.size := Nat.le_trans (Nat.mul_le_mul_right _ (by omega)) hfit
            rw [Nat.succ_mul] at hfit1
            obtain ⟨cells', L, f1, f2, f3, f4⟩ := ih2 (rowSet cells (i * sz t') cs) (by rw [rowSet_size (by omega)]; rw [show i + 1 + ps.length = i + (ps.length + 1) by omega]; exact hfit)
            refine ⟨cells', cs ++ L, ?_, ?_, by rw [List.length_append, f3, hlen, List.length_cons, Nat.succ_mul]; omega, ?_⟩
            · simp only [List.map_cons, Instr.fill, hsize]
              rw [if_neg (by simp; omega), foldl_set0 (by rw [hsize]; omega), hcell]
              exact f1
            · subst f2
              have g1 : (i + 1) * sz t' + L.length ≤ cells.size := by
                rw [f3, ← Nat.add_mul]
                exact Nat.le_trans (Nat.mul_le_mul_right _ (by omega)) hfit
              have g2 : (i + 1) * sz t' = i * sz t' + sz t' := Nat.succ_mul _ _
              apply Array.ext_getElem?
              intro j
              rw [rowSet_get (by rw [rowSet_size (by omega)]; exact g1), rowSet_get (by omega), rowSet_get (by simp; omega)]
              simp only [List.length_append]
              by_cases q1 : i * sz t' ≤ j ∧ j < i * sz t' + cs.length
              · rw [if_neg (by omega), if_pos q1, if_pos (by omega), List.getElem?_append_left (by omega)]
              · by_cases q2 : (i + 1) * sz t' ≤ j ∧ j < (i + 1) * sz t' + L.length
                · rw [if_pos q2, if_pos (by omega), List.getElem?_append_right (by omega)]
                  congr 1; omega
                · rw [if_neg q2, if_neg q1, if_neg (by omega)]
            · intro j y hy
              cases j with
              | zero =>
                simp at hy; subst hy
                simpa [← hlen] using hcs
              | succ j =>
                have := f4 j y (by simpa using hy)
                have e : (j + 1) * sz t' - cs.length = j * sz t' := by rw [Nat.succ_mul]; omega
                rw [List.drop_append, List.drop_eq_nil_of_le (by rw [Nat.succ_mul]; omega), e]
                simpa using this
          · cases hb
        · cases hb
      · cases h
    · cases h

theorem cPartsS_length {te : Ty} : ∀ {ps : List (Nat × Operand)} {n : Nat} {l : List Od}, cPartsS te n ps = some l → l.length = ps.length
  | [], n, l, h => by simp only [cPartsS, Option.some.injEq] at h; subst h; rfl
  | (i, x) :: ps, n, l, h => by
    simp only [cPartsS] at h
    split at h
    · rename_i od l' h1 h2
      split at h
      · cases h; simp [cPartsS_length h2]
      · cases h
    · cases h

/-- The run of a slice literal. -/
theorem bslice_run (em : Emb Γ S a w) {t e : TypeId} {te : Ty} {inf : TypeInfo} {z : Value} {n : Nat} {ps : Array (Nat × Operand)} {l : List Od} {q : List Prop} {xs : List (Den te)}
    (hu : P.underlying t = some (.slice e)) (ht : tyS P e = some te) (hi : P.info? e = some inf) (hz : inf.zero = some z) (hl : cPartsS te 0 ps.toList = some l) (hn : l.length = n) (hzs : z.cells.size = sz te) (hbig : n * sz te ≤ 1000000)
    (hb : bsList te S.T l = some (q, xs)) (hq : allP q) {o : Oper} (ho : o.op = .buildSlice t n ps) :
    ∃ cs, (execOp a.eval o).run P w = .ok (.value (.slice (some ⟨w.heap.size, 0, none⟩) n n)) (w.alloc (.cells cs e)) ∧ cs.size = n * sz te ∧ xs.length = n ∧
      ∀ (i : Nat) (x : Den te), xs[i]? = some x → RepC w Γ.I te x ((cs.toList.drop (i * sz te)).take (sz te)) := by
  obtain ⟨inf', d, hi', _, hsz, _⟩ := tyS_spec ht
  rw [hi] at hi'; cases hi'
  have hlen := cPartsS_length hl
  obtain ⟨h1, h2⟩ := fillS_sound em hl hb hq
  have hn' : ps.toList.length = n := by omega
  obtain ⟨cells', L, f1, f2, f3, f4⟩ := h2 ((Array.range (n * sz te)).map (z.cells[· % z.cells.size]!)) (by simp only [Array.size_map, Array.size_range, Nat.zero_add]; rw [hn']; exact Nat.le_refl _)
  have hLn : L.length = n * sz te := by rw [f3, hn']
  have hce : cells' = L.toArray := by
    subst f2
    apply Array.ext_getElem?
    intro j
    rw [rowSet_get (by simp; omega)]
    simp only [Nat.zero_mul, Nat.zero_le, true_and, Nat.zero_add, Nat.sub_zero, List.getElem?_toArray]
    split
    · rfl
    · rw [List.getElem?_eq_none (by omega)]; simp; omega
  refine ⟨cells', ?_, by rw [hce]; simpa using hLn, by omega, fun i x hx => by rw [hce]; exact f4 i x hx⟩
  have hbig' : ¬ (n * sz te > 2 ^ 24) := by omega
  have e1 : (ps.map fun x => (x.1, a.eval x.2)).toList = ps.toList.map fun p => (p.1, a.eval p.2) := by simp
  have hr0 : Array.range 0 = (#[] : Array Nat) := rfl
  simp only [execOp, ho, Instr.buildSlice, Sem.run_bind, run_underlying hu, Result.andThen_ok, sizeOf, typeInfo, run_program, hi, Sem.run_pure, hsz, hbig', if_false, zeroValue, hz]
  by_cases h0 : n * sz te = 0
  · rw [h0, hr0] at f1
    simp only [h0, if_true, Sem.run_bind, Sem.run_pure, Result.andThen_ok, hr0, List.map_toArray, List.map_nil]
    rw [e1]
    simp only [Array.map_empty] at f1 ⊢
    rw [f1]
    simp [newRow]
  · simp only [h0, if_false, Sem.run_bind, run_program, Result.andThen_ok, hi, hz, Sem.run_pure]
    rw [e1]
    rw [f1]
    simp [newRow]

end
end Go.Ab
