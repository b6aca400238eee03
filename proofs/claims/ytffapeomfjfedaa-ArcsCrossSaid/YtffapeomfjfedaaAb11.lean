/- Soundness, eighth part: slices of slices and arrays, min and max, literals. -/
import Derived.Test.YtffapeomfjfedaaAb10
set_option linter.unusedVariables false
set_option linter.unusedSimpArgs false
namespace Go.Ab

section
variable {P : Program} {Γ : Cx} {H : List Hs} {w : World} {S : St} {a : Act}

/-- A bound of a slice expression, or what stands for it. -/
def bnd (v : Option Value) (d n : Nat) : Prop := (v = none ∧ n = d) ∨ ∃ k, v = some (.int k (n : Int))

theorem sliceBound_run {k : IntKind} {n y : Nat} {c : BoundsCode} (h : n ≤ y) : (Instr.sliceBound (.int k (n : Int)) y c).run P w = .ok n w := by
  have h1 : (0 : Int) ≤ n ∧ (n : Int) ≤ y := by omega
  simp [Instr.sliceBound, asIntOf, h1]

theorem sliceBounds_run {is : Bool} {len cap l h m : Nat} {lo hi mx : Option Value} (hm : bnd mx cap m) (hmc : m ≤ cap) (hh : bnd hi len h) (hs : mx.isSome = true → hi.isSome = true) (hhm : h ≤ m) (hl : bnd lo 0 l) (hlh : l ≤ h) :
    (Instr.sliceBounds is len cap lo hi mx).run P w = .ok (l, h, m) w := by
  unfold Instr.sliceBounds
  rcases hm with ⟨rfl, rfl⟩ | ⟨k1, rfl⟩
  · rcases hh with ⟨rfl, rfl⟩ | ⟨k2, rfl⟩
    · rcases hl with ⟨rfl, rfl⟩ | ⟨k3, rfl⟩
      · simp
      · simp [sliceBound_run hlh]
    · rcases hl with ⟨rfl, rfl⟩ | ⟨k3, rfl⟩
      · simp [sliceBound_run hhm]
      · simp [sliceBound_run hhm, sliceBound_run hlh]
  · rcases hh with ⟨rfl, rfl⟩ | ⟨k2, rfl⟩
    · simp at hs
    · rcases hl with ⟨rfl, rfl⟩ | ⟨k3, rfl⟩
      · simp [sliceBound_run hhm, sliceBound_run hmc]
      · simp [sliceBound_run hhm, sliceBound_run hlh, sliceBound_run hmc]

theorem slice_run {t e : TypeId} (hu : P.underlying t = some (.slice e)) {inf : TypeInfo} (hinf : P.info? e = some inf) {ad : Option Addr} {len cap l h m : Nat} {lo hi mx : Option Value} (hm : bnd mx cap m) (hmc : m ≤ cap) (hh : bnd hi len h)
    (hs : mx.isSome = true → hi.isSome = true) (hhm : h ≤ m) (hl : bnd lo 0 l) (hlh : l ≤ h) :
    (Instr.sliceAt t (.slice ad len cap) lo hi mx).run P w = .ok (.slice (if m = l then ad else ad.map (·.add (l * inf.size))) (h - l) (m - l)) w := by
  simp [Instr.sliceAt, Instr.slice, run_underlying hu, sliceBounds_run (P := P) (w := w) (is := true) hm hmc hh hs hhm hl hlh, sizeOf, typeInfo, hinf]

theorem slice_arr_run {t e : TypeId} {n : Nat} (hu : P.underlying t = some (.array n e)) {inf : TypeInfo} (hinf : P.info? e = some inf) {b off l h : Nat} {lo hi : Option Value} (hh : bnd hi n h)
    (hhm : h ≤ n) (hl : bnd lo 0 l) (hlh : l ≤ h) :
    (Instr.sliceAt t (.pointer (some ⟨b, off, none⟩)) lo hi none).run P w = .ok (.slice (some (if n = l then ⟨b, off, none⟩ else ⟨b, off + l * inf.size, none⟩)) (h - l) (n - l)) w := by
  simp [Instr.sliceAt, run_underlying hu, Instr.sureAddr, sliceBounds_run (P := P) (w := w) (is := false) (mx := none) (.inl ⟨rfl, rfl⟩) (Nat.le_refl n) hh (by simp) hhm hl hlh, sizeOf, typeInfo, hinf, addr_add]

theorem ListAt.sub {I : Nat → Prop} {t : Ty} {xs : List (Den t)} {ad : Option Addr} (h : ListAt w I t xs ad) {l h' m : Nat} (hlh : l ≤ h') (hhm : h' ≤ m) :
    ListAt w I t ((xs.take h').drop l) (if m = l then ad else ad.map (·.add (l * sz t))) := by
  intro i x hx
  rw [List.getElem?_drop, List.getElem?_take] at hx
  split at hx
  · rename_i hlt
    obtain ⟨b, off, cs, rfl, g1, g2, g3⟩ := h _ x hx
    rw [if_neg (by omega)]
    refine ⟨b, off + l * sz t, cs, by simp [addr_add], g1, g2, ?_⟩
    rw [Nat.add_assoc, ← Nat.add_mul]
    exact g3
  · cases hx

theorem optI_sound (em : Emb Γ S a w) {x : Option Operand} {x' : Option Od} (hx : cOpt x = some x') {p : List Prop} {n : Option Int} (h : optI S.T x' = some (p, n)) (hp : allP p) :
    (x = none ∧ n = none) ∨ ∃ m k, n = some m ∧ x.map a.eval = some (.int k m) := by
  cases x with
  | none =>
    simp only [cOpt, Option.some.injEq] at hx
    subst hx
    simp only [optI, Option.some.injEq, Prod.mk.injEq] at h
    exact .inl ⟨rfl, h.2.symm⟩
  | some x =>
    simp only [cOpt] at hx
    split at hx
    · rename_i od ho
      cases hx
      simp only [optI] at h
      split at h
      · rename_i k m hm
        cases h
        have r := peel_sound (cOd_sound em ho) hp
        exact .inr ⟨m, k, rfl, by simp [asInt_sound hm r]⟩
      · cases h
    · cases hx

theorem bnd_of {x : Option Operand} {n : Option Int} {d : Nat} (h : (x = none ∧ n = none) ∨ ∃ m k, n = some m ∧ x.map a.eval = some (.int k m)) (h0 : ∀ m, n = some m → 0 ≤ m) : bnd (x.map a.eval) d ((n.map Int.toNat).getD d) := by
  rcases h with ⟨rfl, rfl⟩ | ⟨m, k, rfl, h⟩
  · exact .inl ⟨rfl, rfl⟩
  · have := h0 m rfl
    exact .inr ⟨k, by rw [h]; simp; omega⟩

theorem does_slc (em : Emb Γ S a w) (sp : Spec) (base : Nat) {tx : Option Ty} {x : Operand} {x' : Od} (hx : cOd tx x = some x') {lo hi mx : Option Operand} {lo' hi' mx' : Option Od} (hlo : cOpt lo = some lo') (hhi : cOpt hi = some hi') (hmx : cOpt mx = some mx')
    {t e : TypeId} {te : Ty} (hu : P.underlying t = some (.slice e)) (ht : tyS P e = some te)
    {o : Oper} (ho : o.op = .slice t x lo hi mx)
    (hob : allP (aeff sp base S.T S.H (.slc te x' lo' hi' mx')).ob) : Does P Γ S.H w (aeff sp base S.T S.H (.slc te x' lo' hi' mx')) ((execOp a.eval o).run P w) := by
  have r1 := cOd_sound em hx
  obtain ⟨inf, d, hinf, _, hsz, _⟩ := tyS_spec ht
  rw [aeff] at hob ⊢
  cases h1 : optI S.T lo' with
  | none => rw [h1] at hob; exact fail_elim hob
  | some u1 => cases h2 : optI S.T hi' with
    | none => rw [h1, h2] at hob; exact fail_elim hob
    | some u2 => cases h3 : optI S.T mx' with
      | none => rw [h1, h2, h3] at hob; exact fail_elim hob
      | some u3 =>
        obtain ⟨p1', l⟩ := u1
        obtain ⟨p2', h⟩ := u2
        obtain ⟨p3', m⟩ := u3
        rw [h1, h2, h3] at hob
        simp only at hob ⊢
        have hob0 := p1_ob hob
        clear hob
        obtain ⟨p, hob⟩ := hob0
        have r1 := peel_sound r1 p
        revert hob
        dsimp only [p1]
        generalize (peel (ev S.T x')).2 = X at r1
        -- the run
        have hrun : ∀ {ad len cap lN hN mN}, a.eval x = .slice ad len cap → bnd (mx.map a.eval) cap mN → mN ≤ cap → bnd (hi.map a.eval) len hN → (mx.isSome = true → hi.isSome = true) → hN ≤ mN → bnd (lo.map a.eval) 0 lN → lN ≤ hN →
            (execOp a.eval o).run P w = .ok (.value (.slice (if mN = lN then ad else ad.map (·.add (lN * sz te))) (hN - lN) (mN - lN))) w := fun {ad len cap lN hN mN} hv a1 a2 a3 a4 a5 a6 a7 => by
          have := slice_run (P := P) (w := w) hu hinf (ad := ad) a1 a2 a3 (by simpa using a4) a5 a6 a7
          rw [hsz] at this
          simp only [execOp, ho, hv, Sem.run_bind, this, Result.andThen_ok, Sem.run_pure]
        cases hL : asList te X with
        | some ys =>
          obtain ⟨ad, cap, hv, hcap, had, hat⟩ := asList_sound hL r1
          have hval : ∀ {lN hN mN : Nat}, lN ≤ hN → hN ≤ mN → mN ≤ cap → hN ≤ ys.length → (execOp a.eval o).run P w = .ok (.value (.slice (if mN = lN then ad else ad.map (·.add (lN * sz te))) (hN - lN) (mN - lN))) w →
              Ra w Γ (.val (.slice te) ((ys.take hN).drop lN)) (.slice (if mN = lN then ad else ad.map (·.add (lN * sz te))) (hN - lN) (mN - lN)) := fun {lN hN mN} b1 b2 b3 b4 _ => by
            refine Ra_val.2 (RepV_slice.2 ⟨_, mN - lN, ?_, ?_, ?_, hat.sub b1 b2⟩)
            · rw [List.length_drop, List.length_take, Nat.min_eq_left b4]
            · rw [List.length_drop, List.length_take, Nat.min_eq_left b4]; omega
            · intro hn
              split at hn
              · omega
              · cases ad with
                | none => have := had rfl; omega
                | some _ => simp at hn
          have hvsl : ∀ {lN hN mN : Nat}, lN ≤ hN → hN ≤ mN → mN ≤ cap → hN ≤ ys.length →
              Ra w Γ (.vsl te ((ys.take hN).drop lN) (mN - lN)) (.slice (if mN = lN then ad else ad.map (·.add (lN * sz te))) (hN - lN) (mN - lN)) := fun {lN hN mN} b1 b2 b3 b4 => by
            refine Ra_vsl.2 ⟨_, ?_, ?_, ?_, hat.sub b1 b2⟩
            · rw [List.length_drop, List.length_take, Nat.min_eq_left b4]
            · rw [List.length_drop, List.length_take, Nat.min_eq_left b4]; omega
            · intro hn
              split at hn
              · omega
              · cases ad with
                | none => have := had rfl; omega
                | some _ => simp at hn
          intro hob
          simp only at hob ⊢
          have allq : ∀ {q : Prop}, allP (p1' ++ p2' ++ p3' ++ [q]) → allP p1' ∧ allP p2' ∧ allP p3' ∧ q := fun hq => by
            obtain ⟨hq1, hq2⟩ := allP_app.1 hq
            obtain ⟨hq3, hq4⟩ := allP_app.1 hq1
            obtain ⟨hq5, hq6⟩ := allP_app.1 hq3
            exact ⟨hq5, hq6, hq4, allP_one.1 hq2⟩
          cases l with
          | none => cases h with
            | none => cases m with
              | none =>
                simp only at hob ⊢
                obtain ⟨hq3, hq4⟩ := allP_app.1 hob
                obtain ⟨hq5, hq6⟩ := allP_app.1 hq3
                have s1 := optI_sound em hlo h1 hq5
                have s2 := optI_sound em hhi h2 hq6
                have s3 := optI_sound em hmx h3 hq4
                obtain ⟨rfl, _⟩ := s1.resolve_right (by simp)
                obtain ⟨rfl, _⟩ := s2.resolve_right (by simp)
                obtain ⟨rfl, _⟩ := s3.resolve_right (by simp)
                refine Does.val em.heap (hrun (lN := 0) (hN := ys.length) (mN := cap) hv (.inl ⟨rfl, rfl⟩) (Nat.le_refl _) (.inl ⟨rfl, rfl⟩) (by simp) hcap (.inl ⟨rfl, rfl⟩) (Nat.zero_le _)) rfl ?_
                rw [hv] at r1
                have e : (if cap = 0 then ad else ad.map (·.add (0 * sz te))) = ad := by
                  split
                  · rfl
                  · cases ad with
                    | none => rfl
                    | some _ => simp [Addr.add]
                rw [e]
                simpa [Ef.when] using r1
              | some m => exact fail_elim hob
            | some h => cases m with
              | none =>
                obtain ⟨q1, q2, q3, q4⟩ := allq hob
                have s1 := optI_sound em hlo h1 q1
                have s2 := optI_sound em hhi h2 q2
                have s3 := optI_sound em hmx h3 q3
                obtain ⟨rfl, _⟩ := s1.resolve_right (by simp)
                obtain ⟨rfl, _⟩ := s3.resolve_right (by simp)
                have b2 := bnd_of (d := ys.length) s2 (fun m hm => by cases hm; exact q4.1)
                have r := hrun (lN := 0) (hN := h.toNat) (mN := cap) hv (.inl ⟨rfl, rfl⟩) (Nat.le_refl _) b2 (by simp) (by omega) (.inl ⟨rfl, rfl⟩) (Nat.zero_le _)
                exact Does.val em.heap r rfl (by simpa [Ef.when] using hval (lN := 0) (hN := h.toNat) (mN := cap) (Nat.zero_le _) (by omega) (Nat.le_refl _) (by omega) r)
              | some m =>
                obtain ⟨q1, q2, q3, q4⟩ := allq hob
                have s1 := optI_sound em hlo h1 q1
                have s2 := optI_sound em hhi h2 q2
                have s3 := optI_sound em hmx h3 q3
                obtain ⟨rfl, _⟩ := s1.resolve_right (by simp)
                have b2 := bnd_of (d := ys.length) s2 (fun m hm => by cases hm; exact q4.1)
                have b3 := bnd_of (d := cap) s3 (fun m hm => by cases hm; omega)
                have hsome : hi.isSome = true := by rcases s2 with ⟨_, h⟩ | ⟨_, _, _, h⟩; cases h; cases hi <;> simp at h ⊢
                have r := hrun (lN := 0) (hN := h.toNat) (mN := m.toNat) hv b3 (by omega) b2 (fun _ => hsome) (by omega) (.inl ⟨rfl, rfl⟩) (Nat.zero_le _)
                exact Does.val em.heap r rfl (by simpa [Ef.when] using hvsl (lN := 0) (hN := h.toNat) (mN := m.toNat) (Nat.zero_le _) (by omega) (by omega) (by omega))
          | some l => cases h with
            | none => cases m with
              | none =>
                obtain ⟨q1, q2, q3, q4⟩ := allq hob
                have s1 := optI_sound em hlo h1 q1
                have s2 := optI_sound em hhi h2 q2
                have s3 := optI_sound em hmx h3 q3
                obtain ⟨rfl, _⟩ := s2.resolve_right (by simp)
                obtain ⟨rfl, _⟩ := s3.resolve_right (by simp)
                have b1 := bnd_of (d := 0) s1 (fun m hm => by cases hm; exact q4.1)
                have r := hrun (lN := l.toNat) (hN := ys.length) (mN := cap) hv (.inl ⟨rfl, rfl⟩) (Nat.le_refl _) (.inl ⟨rfl, rfl⟩) (by simp) hcap b1 (by omega)
                exact Does.val em.heap r rfl (by simpa [Ef.when] using hval (lN := l.toNat) (hN := ys.length) (mN := cap) (by omega) hcap (Nat.le_refl _) (Nat.le_refl _) r)
              | some m => exact fail_elim hob
            | some h => cases m with
              | none =>
                obtain ⟨q1, q2, q3, q4⟩ := allq hob
                have s1 := optI_sound em hlo h1 q1
                have s2 := optI_sound em hhi h2 q2
                have s3 := optI_sound em hmx h3 q3
                obtain ⟨rfl, _⟩ := s3.resolve_right (by simp)
                have b1 := bnd_of (d := 0) s1 (fun m hm => by cases hm; exact q4.1)
                have b2 := bnd_of (d := ys.length) s2 (fun m hm => by cases hm; omega)
                have r := hrun (lN := l.toNat) (hN := h.toNat) (mN := cap) hv (.inl ⟨rfl, rfl⟩) (Nat.le_refl _) b2 (by simp) (by omega) b1 (by omega)
                exact Does.val em.heap r rfl (hval (by omega) (by omega) (Nat.le_refl _) (by omega) r)
              | some m =>
                obtain ⟨q1, q2, q3, q4⟩ := allq hob
                have s1 := optI_sound em hlo h1 q1
                have s2 := optI_sound em hhi h2 q2
                have s3 := optI_sound em hmx h3 q3
                have b1 := bnd_of (d := 0) s1 (fun m hm => by cases hm; exact q4.1)
                have b2 := bnd_of (d := ys.length) s2 (fun m hm => by cases hm; omega)
                have b3 := bnd_of (d := cap) s3 (fun m hm => by cases hm; omega)
                have hsome : hi.isSome = true := by rcases s2 with ⟨_, h⟩ | ⟨_, _, _, h⟩; cases h; cases hi <;> simp at h ⊢
                have r := hrun (lN := l.toNat) (hN := h.toNat) (mN := m.toNat) hv b3 (by omega) b2 (fun _ => hsome) (by omega) b1 (by omega)
                exact Does.val em.heap r rfl (hvsl (by omega) (by omega) (by omega) (by omega))
        | none =>
          intro hob
          cases X with
          | sl b s i len c =>
            simp only at hob ⊢
            by_cases hs : s = sz te
            · rw [if_pos hs] at hob ⊢
              obtain ⟨hA, ad, cap, hv, hcap, hoff, hle⟩ := Ra_sl.1 r1
              have hsl : ∀ {lN hN : Nat}, lN ≤ hN → hN ≤ len → Ra w Γ (.sl b s (i + lN) (hN - lN) (c.map (· - lN))) (.slice (if cap = lN then ad else ad.map (·.add (lN * sz te))) (hN - lN) (cap - lN)) := fun {lN hN} b1 b2 => by
                refine Ra_sl.2 ⟨hA, _, cap - lN, rfl, ?_, ?_, by omega⟩
                · rw [hcap]
                  cases c with
                  | none => simp; omega
                  | some c => simp
                · intro hne
                  rw [if_neg (by omega), hoff (by omega), Nat.add_mul, hs]
                  simp [addr_add]
              have allq : ∀ {q : Prop}, allP (p1' ++ p2' ++ p3' ++ [q]) → allP p1' ∧ allP p2' ∧ allP p3' ∧ q := fun hq => by
                obtain ⟨hq1, hq2⟩ := allP_app.1 hq
                obtain ⟨hq3, hq4⟩ := allP_app.1 hq1
                obtain ⟨hq5, hq6⟩ := allP_app.1 hq3
                exact ⟨hq5, hq6, hq4, allP_one.1 hq2⟩
              cases m with
              | some m => cases l <;> cases h <;> exact fail_elim hob
              | none =>
                cases l with
                | none => cases h with
                  | none =>
                    simp only at hob ⊢
                    obtain ⟨hq3, hq4⟩ := allP_app.1 hob
                    obtain ⟨hq5, hq6⟩ := allP_app.1 hq3
                    have s1 := optI_sound em hlo h1 hq5
                    have s2 := optI_sound em hhi h2 hq6
                    have s3 := optI_sound em hmx h3 hq4
                    obtain ⟨rfl, _⟩ := s1.resolve_right (by simp)
                    obtain ⟨rfl, _⟩ := s2.resolve_right (by simp)
                    obtain ⟨rfl, _⟩ := s3.resolve_right (by simp)
                    refine Does.val em.heap (hrun (lN := 0) (hN := len) (mN := cap) hv (.inl ⟨rfl, rfl⟩) (Nat.le_refl _) (.inl ⟨rfl, rfl⟩) (by simp) hle (.inl ⟨rfl, rfl⟩) (Nat.zero_le _)) rfl ?_
                    have := hsl (lN := 0) (hN := len) (Nat.zero_le _) (Nat.le_refl _)
                    have hc0 : c.map (· - 0) = c := by cases c <;> simp
                    rw [hc0] at this
                    simpa [Ef.when] using this
                  | some h =>
                    obtain ⟨q1, q2, q3, q4⟩ := allq hob
                    have s1 := optI_sound em hlo h1 q1
                    have s2 := optI_sound em hhi h2 q2
                    have s3 := optI_sound em hmx h3 q3
                    obtain ⟨rfl, _⟩ := s1.resolve_right (by simp)
                    obtain ⟨rfl, _⟩ := s3.resolve_right (by simp)
                    have b2 := bnd_of (d := len) s2 (fun m hm => by cases hm; exact q4.1)
                    have r := hrun (lN := 0) (hN := h.toNat) (mN := cap) hv (.inl ⟨rfl, rfl⟩) (Nat.le_refl _) b2 (by simp) (by omega) (.inl ⟨rfl, rfl⟩) (Nat.zero_le _)
                    have := hsl (lN := 0) (hN := h.toNat) (Nat.zero_le _) (by omega)
                    have hc0 : c.map (· - 0) = c := by cases c <;> simp
                    rw [hc0] at this
                    exact Does.val em.heap r rfl (by simpa [Ef.when] using this)
                | some l => cases h with
                  | none =>
                    obtain ⟨q1, q2, q3, q4⟩ := allq hob
                    have s1 := optI_sound em hlo h1 q1
                    have s2 := optI_sound em hhi h2 q2
                    have s3 := optI_sound em hmx h3 q3
                    obtain ⟨rfl, _⟩ := s2.resolve_right (by simp)
                    obtain ⟨rfl, _⟩ := s3.resolve_right (by simp)
                    have b1 := bnd_of (d := 0) s1 (fun m hm => by cases hm; exact q4.1)
                    have r := hrun (lN := l.toNat) (hN := len) (mN := cap) hv (.inl ⟨rfl, rfl⟩) (Nat.le_refl _) (.inl ⟨rfl, rfl⟩) (by simp) hle b1 (by omega)
                    exact Does.val em.heap r rfl (hsl (by omega) (Nat.le_refl _))
                  | some h =>
                    obtain ⟨q1, q2, q3, q4⟩ := allq hob
                    have s1 := optI_sound em hlo h1 q1
                    have s2 := optI_sound em hhi h2 q2
                    have s3 := optI_sound em hmx h3 q3
                    obtain ⟨rfl, _⟩ := s3.resolve_right (by simp)
                    have b1 := bnd_of (d := 0) s1 (fun m hm => by cases hm; exact q4.1)
                    have b2 := bnd_of (d := len) s2 (fun m hm => by cases hm; omega)
                    have r := hrun (lN := l.toNat) (hN := h.toNat) (mN := cap) hv (.inl ⟨rfl, rfl⟩) (Nat.le_refl _) b2 (by simp) (by omega) b1 (by omega)
                    exact Does.val em.heap r rfl (hsl (by omega) (by omega))
            · rw [if_neg hs] at hob; exact fail_elim hob
          | _ => exact fail_elim hob

end
end Go.Ab
