/- Contracts: calls by contract, and how a contract is proved. -/
import Derived.Test.YtffapeomfjfedaaAb29
set_option linter.unusedVariables false
set_option linter.unusedSimpArgs false
namespace Go.Ab

section
variable {w w' : World} {Γ Γ1 : Cx} {H : List Hs}

theorem res_list {Γ' : Cx} (hI : ∀ n, Γ.I n → Γ'.I n) : ∀ {ts : List Ty} {x : Dens ts} {vs : List Value}, Rp w Γ (toAV (densL ts x)) vs → Rp w Γ' (toAV (densL ts x)) vs
  | [], x, vs, h => by simpa only [densL, toAV, Rp] using h
  | t :: ts, x, vs, h => by
    simp only [densL, toAV, Rp] at h ⊢
    obtain ⟨v, us, e, ⟨u, e1, h1⟩, h2⟩ := h
    exact ⟨v, us, e, ⟨u, e1, h1.mono hI (fun _ _ => rfl)⟩, res_list hI h2⟩

theorem res_ctx {Γ' : Cx} (hI : ∀ n, Γ.I n → Γ'.I n) {rs : List Ty} {r : Dens rs} {v : Value} (h : Ra w Γ (resAV rs r) v) : Ra w Γ' (resAV rs r) v := by
  match rs, r, h with
  | [], r, h =>
    simp only [resAV, Ra, Rp, List.cons.injEq, and_true] at h ⊢
    obtain ⟨us, e, h⟩ := h
    exact ⟨us, e, res_list (ts := []) hI h⟩
  | [t], r, h =>
    exact Ra_val.2 ((Ra_val.1 h).mono hI (fun _ _ => rfl))
  | t :: u :: ts, r, h =>
    simp only [resAV, Ra, Rp, List.cons.injEq, and_true] at h ⊢
    obtain ⟨us, e, h⟩ := h
    exact ⟨us, e, res_list hI h⟩

theorem no_wr {Γ : Cx} {n : Nat} : ¬ Wr Γ [] n := fun ⟨b, ⟨B, h⟩, _⟩ => by simp at h

theorem freeze_nil_emb (e : EmbH Γ H w) : EmbH (Γ.freeze []) [] w := by
  refine ⟨fun b B h => by simp at h, fun b b' h => by obtain ⟨B, h⟩ := h; simp at h, fun b h => by obtain ⟨B, h⟩ := h; simp at h, fun n hn => ?_, fun b => ?_⟩
  · rcases hn with h | h
    · exact e.old n h
    · exact absurd h no_wr
  · exact ⟨fun h => h.elim, fun ⟨x, hx, _⟩ => by simp at hx⟩

/-- A call that leaves all that was there, and may have made fixed data. -/
theorem after_call (e : EmbH Γ H w) {I : Nat → Prop} (hfr : ∀ n, n < w.heap.size → w'.heap[n]? = w.heap[n]?) (hs : w.heap.size ≤ w'.heap.size) (ho : w'.os = w.os) (hout : w'.output = w.output)
    (hmi : ∀ n, Γ.I n → I n) (him : ∀ n, I n → Γ.I n ∨ w.heap.size ≤ n) (hold : ∀ n, I n → n < w'.heap.size) : Ext Γ H w { Γ with I := I } H w' ∧ EmbH { Γ with I := I } H w' := by
  refine ⟨⟨fun n hn _ => hfr n hn, hs, ho, hout, fun n ⟨b, hb, hk, he⟩ => .inl ⟨b, hb, hk, he⟩, fun n hn => (him n hn).imp id .inr, hmi, fun _ h => ⟨h, rfl, rfl⟩⟩, ?_⟩
  refine ⟨fun b B hB => ?_, e.inj, fun b hb hk hI => ?_, hold, e.al⟩
  · exact RepB.mono (w := w) (w' := w') (Γ := Γ) (Γ' := { Γ with I := I }) hmi (fun b hb => hfr b (e.old b hb)) (fun _ h => ⟨h, rfl, rfl⟩) (e.alive ⟨B, hB⟩) (fun hk => hfr _ (e.lt ⟨B, hB⟩ hk)) (e.blk b B hB)
  · rcases him _ hI with h | h
    · exact e.imm b hb hk h
    · have := e.lt hb hk
      have h' : w.heap.size ≤ Γ.ν b := h
      omega

theorem eff_ok {P : Program} {c : Con} (hc : c.Ok P) {args : List AV} {e : Ef} (he : c.eff H args = some e) (hob : allP e.ob) (em : EmbH Γ H w) {vs : List Value} (hf : Fa w Γ args vs) :
    Calls P c.f vs.toArray w fun en w' => ∃ v Γ', en = .returned v ∧ Ext Γ H w Γ' (putUp H e.up) w' ∧ EmbH Γ' (putUp H e.up) w' ∧ Ra w' Γ' e.v v := by
  unfold Con.eff at he
  split at he
  · rename_i p env h1
    split at he
    · rename_i q r h2 h3
      cases he
      obtain ⟨hp, hq⟩ := allP_app.1 hob
      obtain ⟨k1, k2⟩ := resA_sound (H := []) blkOk_nil h1 hp hf
      refine Calls.mono (hc.2 (Γ.freeze []) w env q r vs (fun _ h => h) (freeze_nil_emb em) k1 h2 h3 hq k2) fun en w' hen => ?_
      obtain ⟨v, Γ1, rfl, hx, em1, hr⟩ := hen
      obtain ⟨a1, a2⟩ := after_call (I := Γ1.I) em (fun n hn => hx.fr n hn no_wr) hx.size hx.os hx.out (fun n hn => hx.mi n (.inl hn)) (fun n hn => by
        rcases hx.im n hn with (h | h) | h | h
        · exact .inl h
        · exact absurd h no_wr
        · exact absurd h no_wr
        · exact .inr h) em1.old
      exact ⟨v, _, rfl, a1, a2, res_ctx (Γ := Γ1) (Γ' := { Γ with I := Γ1.I }) (fun _ h => h) hr⟩
    · cases he
  · split at he
    · rename_i hfl
      split at he
      · rename_i p env h1
        split at he
        · rename_i q r h2 h3
          cases he
          obtain ⟨hp, hq⟩ := allP_app.1 hob
          obtain ⟨k1, k2⟩ := resA_sound (fun b B h => em.blk b B h) h1 hp hf
          refine Calls.mono (hc.2 (Γ.freeze H) w env q r vs (fun _ h => h) (freeze_emb em) k1 h2 h3 hq k2) fun en w' hen => ?_
          obtain ⟨v, Γ1, rfl, hx, em1, hr⟩ := hen
          obtain ⟨a1, a2⟩ := after_call (I := Γ.I) em (fun n hn => hx.fr n hn no_wr) hx.size hx.os hx.out (fun n hn => hn) (fun n hn => .inl hn) (fun n hn => Nat.lt_of_lt_of_le (em.old n hn) hx.size)
          exact ⟨v, _, rfl, a1, a2, flat_res hfl hr⟩
        · cases he
      · cases he
    · cases he

theorem specOk {P : Program} : ∀ {cs : List Con}, (∀ c ∈ cs, c.Ok P) → SpecOk P (spOf cs)
  | [], _, f, H, base, args, hob => fail_elim hob
  | c :: cs, h, f, H, base, args, hob => by
    simp only [spOf] at hob ⊢
    split at hob
    · rename_i hh
      simp only [Bool.and_eq_true] at hh
      have hcf : c.f = f := by simpa using hh.1
      subst hcf
      have hc := h c (List.mem_cons_self ..)
      cases he : c.eff H args with
      | none => rw [he] at hob; exact fail_elim hob
      | some e =>
        rw [he] at hob
        simp only [hh.1, hh.2, Bool.and_true]
        exact ⟨hc.1, fun Γ w vs em hf => eff_ok hc he hob em hf⟩
    · rename_i hh
      exact specOk (fun c hc => h c (List.mem_cons_of_mem _ hc)) f H base args hob

theorem resD_mono {H H' : List Hs} (h : Lives H H') : ∀ {ts : List Ty} {xs : List AV} {r : List Prop × List AV}, resD H ts xs = some r → resD H' ts xs = some r
  | [], [], r, hr => by simpa only [resD] using hr
  | t :: ts, x :: xs, r, hr => by
    simp only [resD] at hr ⊢
    split at hr
    · rename_i p y q l h1 h2
      have h1' : rvV H' t x = some (p, y) := by
        unfold rvV at h1 ⊢
        split at h1
        · rename_i ha; rw [if_pos ha]; exact h1
        · rename_i ha; rw [if_neg ha]; exact rv_mono h _ _ _ h1
      rw [h1', resD_mono h h2]
      exact hr
    · cases hr
  | [], _ :: _, _, hr => by simp [resD] at hr
  | _ :: _, [], _, hr => by simp [resD] at hr

theorem resA_mono {H H' : List Hs} (h : Lives H H') : ∀ {ats : List AT} {xs : List AV} {r : List Prop × List AV}, resA H ats xs = some r → resA H' ats xs = some r
  | [], [], r, hr => by simpa only [resA] using hr
  | .d t :: l, x :: xs, r, hr => by
    simp only [resA] at hr ⊢
    split at hr
    · rename_i p y q l h1 h2
      have h1' : rvV H' t x = some (p, y) := by
        unfold rvV at h1 ⊢
        split at h1
        · rename_i ha; rw [if_pos ha]; exact h1
        · rename_i ha; rw [if_neg ha]; exact rv_mono h _ _ _ h1
      rw [h1', resA_mono h h2]
      exact hr
    · cases hr
  | .fn g caps :: l, x :: xs, r, hr => by
    cases x with
    | fn g' cs =>
      simp only [resA] at hr ⊢
      split at hr
      · rename_i hh
        rw [if_pos hh]
        split at hr
        · rename_i h1 h2
          rw [resD_mono h h1, resA_mono h h2]
          exact hr
        · cases hr
      · cases hr
    | _ => simp [resA] at hr
  | [], _ :: _, _, hr => by simp [resA] at hr
  | .d _ :: _, [], _, hr => by simp [resA] at hr
  | .fn _ _ :: _, [], _, hr => by simp [resA] at hr

theorem specFrame : ∀ {cs : List Con}, SpecFrame (spOf cs)
  | [], f, H, H', base, args, hob, _ => fail_elim hob
  | c :: cs, f, H, H', base, args, hob, ha => by
    simp only [spOf] at hob ha ⊢
    split at hob
    · rename_i hh
      rw [hh] at ha
      simp only at ha
      cases he : c.eff H args with
      | none => rw [he] at hob; exact fail_elim hob
      | some e =>
        rw [he] at hob ha
        simp only at ha ⊢
        unfold Con.eff at he ⊢
        split at he
        · rename_i p env h1
          split at he
          · rename_i q r h2 h3
            cases he
            simp only [h2, h3]
            exact Ef.sim.refl _
          · cases he
        · rename_i h1
          split at he
          · rename_i hfl
            split at he
            · rename_i p env h4
              split at he
              · rename_i q r h2 h3
                cases he
                have hl : Lives H H' := lives_of rfl ha.1
                simp only [hfl, resA_mono hl h4, h2, h3]
                exact ⟨rfl, rfl, rfl⟩
              · cases he
            · cases he
          · cases he
    · rename_i hh
      rw [hh] at ha
      exact specFrame f H H' base args hob ha

end

/-! ### Proving a contract -/
/-- Where a result lies: in a slot, or behind the address in a slot. -/
inductive RS where
  | tmp (n : Nat)
  | cell (n : Nat) (ty : Ty)

noncomputable def resSlots (P : Program) : List ResultVar → Option (List RS)
  | [] => some []
  | .tmp t :: l => match resSlots P l with
    | some r => some (.tmp t :: r)
    | none => none
  | .cell a t :: l => match tyS P t, resSlots P l with
    | some ty, some r => some (.cell a ty :: r)
    | _, _ => none

def readOne (S : St) (t : Ty) : RS → Option (List Prop × Den t)
  | .tmp n => match rvV S.H t (peel (S.T.getD n .undef)).2 with
    | some (p, y) => some ((peel (S.T.getD n .undef)).1 ++ p, y)
    | none => none
  | .cell n ty => match rvV S.H (.ptr ty) (peel (S.T.getD n .undef)).2 with
    | some (p, y) => match castD ty t y with
      | some z => some ((peel (S.T.getD n .undef)).1 ++ p, z)
      | none => none
    | none => none

def readR (S : St) : (rs : List Ty) → List RS → Option (List Prop × Dens rs)
  | [], [] => some ([], ())
  | t :: ts, n :: l => match readOne S t n, readR S ts l with
    | some (p, y), some (q, r) => some (p ++ q, (y, r))
    | _, _ => none
  | [], _ :: _ => none
  | _ :: _, [] => none

/-- The end of a function: its results. -/
noncomputable def finO (rs : List Ty) (slots : List RS) : KT (Dens rs) := fun Y f e S => match e with
  | .exit _ => none
  | _ => match readR S rs slots with
    | some (p, y) => gdL p (some (f y))
    | none => none

theorem finO_nat {rs : List Ty} {slots : List RS} : NatK (finO rs slots) := fun Y f e S => by
  cases e <;> simp only [finO]
  · split
    · rw [gdL_map]; rfl
    · rfl
  · rfl
  · split
    · rw [gdL_map]; rfl
    · rfl

def impL : List Prop → Prop → Prop
  | [], X => X
  | p :: ps, X => p → impL ps X

theorem impL_elim : ∀ {l : List Prop} {X : Prop}, impL l X → allP l → X
  | [], _, h, _ => h
  | p :: l, X, h, hp => impL_elim (h (allP_cons.1 hp).1) (allP_cons.1 hp).2

/-- The condition for a contract. -/
noncomputable def Con.vc (c : Con) (sp : Spec) (L : List LSh) (ac : AC) (n : Nat) (slots : List RS) : Prop :=
  allD (tsA c.ats) fun env => match c.pre env, c.F env with
    | some p, some r => impL p (runO sp L ac ⟨argsAV c.ats env ++ List.replicate n .undef, []⟩ (finO c.rs slots) (Dens c.rs) id = some r)
    | _, _ => False

section
variable {P : Program}

theorem readOne_sound {w : World} {Γ : Cx} {S : St} {a : Act} (em : Emb Γ S a w) {g : ResultVar → Sem Value} (hg : ∀ t, g (.tmp t) = pure (a.tmps.getD t undef)) (hc : ∀ n t, g (.cell n t) = do loadVar t (← asAddr (a.tmps.getD n undef)))
    {t : Ty} {p : List Prop} {y : Den t} {x : ResultVar} {r : RS} (hx : resSlots P [x] = some [r]) (h : readOne S t r = some (p, y)) (hp : allP p) : ∃ v, (g x).run P w = .ok v w ∧ RepV w (Jf Γ S.H) t y v := by
  cases x with
  | tmp n =>
    simp only [resSlots, Option.some.injEq, List.cons.injEq, and_true] at hx
    subst hx
    simp only [readOne] at h
    split at h
    · rename_i q z h1
      cases h
      obtain ⟨hp0, hp1⟩ := allP_app.1 hp
      exact ⟨_, by rw [hg]; rfl, rvV_sound (fun b B hB => em.heap.blk b B hB) h1 hp1 (peel_sound (ev_tmp em n) hp0)⟩
    · cases h
  | cell n tid =>
    simp only [resSlots] at hx
    split at hx
    · rename_i ty r' ht hr'
      cases hr'
      simp only [Option.some.injEq, List.cons.injEq, and_true] at hx
      subst hx
      simp only [readOne] at h
      split at h
      · rename_i q z h1
        split at h
        · rename_i z' h2
          cases h
          obtain ⟨e1, e2⟩ := castD_eq h2
          subst e1
          subst e2
          obtain ⟨hp0, hp1⟩ := allP_app.1 hp
          obtain ⟨cs, c1, c2⟩ := rvV_sound (fun b B hB => em.heap.blk b B hB) h1 hp1 (peel_sound (ev_tmp em n) hp0)
          simp only [RepC] at c1
          obtain ⟨b, off, c, d1, d2, d3, d4⟩ := c1
          have hv : a.tmps.getD n undef = .pointer (some ⟨b, off, none⟩) := by rw [c2, d1]; rfl
          refine ⟨mkV ty c, ?_, c, d3, rfl⟩
          rw [hc, hv]
          simp only [Sem.run_bind, asAddr, Sem.run_pure, Result.andThen_ok]
          exact loadVar_run ht (RepC.length _ _ _ d3) d4
        · cases h
      · cases h
    · cases hx

theorem resSlots_cons {x : ResultVar} {l : List ResultVar} {slots : List RS} (h : resSlots P (x :: l) = some slots) : ∃ r rest, slots = r :: rest ∧ resSlots P [x] = some [r] ∧ resSlots P l = some rest := by
  cases x with
  | tmp t =>
    simp only [resSlots] at h ⊢
    split at h
    · rename_i r hr; cases h; exact ⟨_, _, rfl, rfl, hr⟩
    · cases h
  | cell a t =>
    simp only [resSlots] at h ⊢
    split at h
    · rename_i ty r h1 h2; cases h; exact ⟨_, _, rfl, by rw [h1], h2⟩
    · cases h

theorem readR_sound {w : World} {Γ : Cx} {S : St} {a : Act} (em : Emb Γ S a w) {g : ResultVar → Sem Value} (hg : ∀ t, g (.tmp t) = pure (a.tmps.getD t undef)) (hc : ∀ n t, g (.cell n t) = do loadVar t (← asAddr (a.tmps.getD n undef))) :
    ∀ {rs : List Ty} {slots : List RS} {l : List ResultVar} {p : List Prop} {y : Dens rs}, resSlots P l = some slots → readR S rs slots = some (p, y) → allP p →
    ∃ us, (l.mapM g).run P w = .ok us w ∧ Rp w (Γ.freeze S.H) (toAV (densL rs y)) us
  | rs, slots, [], p, y, hl, h, _ => by
    simp only [resSlots, Option.some.injEq] at hl
    subst hl
    cases rs with
    | nil => exact ⟨[], by simp, by simp only [densL, toAV, Rp]⟩
    | cons t ts => simp [readR] at h
  | rs, slots, x :: l, p, y, hl, h, hp => by
    obtain ⟨r, rest, rfl, h1, h2⟩ := resSlots_cons hl
    cases rs with
    | nil => simp [readR] at h
    | cons t ts =>
      simp only [readR] at h
      split at h
      · rename_i p1 z q r' k1 k2
        cases h
        obtain ⟨hp1, hp2⟩ := allP_app.1 hp
        obtain ⟨v, m1, m2⟩ := readOne_sound em hg hc h1 k1 hp1
        obtain ⟨us, m3, m4⟩ := readR_sound em hg hc h2 k2 hp2
        refine ⟨v :: us, by simp [List.mapM_cons, m1, m3], ?_⟩
        simp only [densL, toAV, Rp]
        exact ⟨_, _, rfl, ⟨_, rfl, m2⟩, m4⟩
      · cases h

def resV : List Value → Value
  | [v] => v
  | vs => .tuple vs.toArray

theorem results_run {w : World} {fn : Func} {tmps : Array Value} {us : List Value} (h : ∀ g : ResultVar → Sem Value, (∀ t, g (.tmp t) = pure (tmps.getD t undef)) → (∀ n t, g (.cell n t) = do loadVar t (← asAddr (tmps.getD n undef))) → (fn.results.toList.mapM g).run P w = .ok us w) :
    (results fn tmps).run P w = .ok (resV us) w := by
  unfold results
  simp only [Array.mapM_eq_mapM_toList, Sem.run_bind, Sem.run_map]
  rw [h _ (fun _ => rfl) (fun _ _ => rfl)]
  match us with
  | [] => rfl
  | [v] => rfl
  | v :: u :: us => rfl

theorem res_rep {w : World} {Γ : Cx} : ∀ {rs : List Ty} {y : Dens rs} {us : List Value}, Rp w Γ (toAV (densL rs y)) us → Ra w Γ (resAV rs y) (resV us)
  | [], y, us, k2 => by
    simp only [densL, toAV, Rp] at k2
    subst k2
    simp only [resAV, densL, toAV, Ra, Rp, List.cons.injEq, and_true]
    exact ⟨[], rfl, rfl⟩
  | [t], y, us, k2 => by
    simp only [densL, toAV, Rp] at k2
    obtain ⟨v, us', rfl, k3, rfl⟩ := k2
    simp only [resAV, Ra, Rp]
    exact k3
  | t :: u :: ts, y, us, k2 => by
    have k2' := k2
    simp only [densL, toAV, Rp] at k2
    obtain ⟨v1, us', rfl, _, v2, us'', rfl, _, _⟩ := k2
    simp only [resAV, Ra, Rp, List.cons.injEq, and_true]
    exact ⟨_, rfl, k2'⟩

theorem Con.prove (c : Con) {sp : Spec} (hsp : SpecOk P sp) (hfr : SpecFrame sp) (hm : P.follows .mixedOrders = true) {fn : Func} {code : Code} {ms : List Nat} {lm lm' : List (List Nat)} {ac : AC} {slots : List RS} {n : Nat}
    (hf : P.funcs[c.f]? = some fn) (hb : fn.body = some code) (hcall : callable P c.f = true) (hn : fn.ntmps - c.ats.length = n) (hres : resSlots P fn.results.toList = some slots) (hc : cCode P ms code lm = some (ac, lm'))
    {L : List LSh} (h : c.vc sp L ac n slots) : c.Ok P := by
  refine ⟨hcall, fun Γ w env p r vs hA em henv hpre hF hp hargs => ?_⟩
  have h := allD_elim h henv
  rw [hpre, hF] at h
  have h := impL_elim h hp
  have hlen : (argsAV c.ats env).length = vs.length := hargs.length
  have hal : (argsAV c.ats env).length = c.ats.length := by
    have : ∀ (ats : List AT) (env : List AV), (argsAV ats env).length = ats.length := by
      intro ats
      induction ats with
      | nil => intro env; rfl
      | cons x l ih => intro env; cases x <;> simp [argsAV, ih]
    exact this _ _
  have em0 : Emb Γ ⟨argsAV c.ats env ++ List.replicate n .undef, []⟩ { tmps := vs.toArray ++ Array.replicate (fn.ntmps - vs.toArray.size) undef, defers := [] } w := by
    refine ⟨rfl, ?_, fun i x hx => ?_, em⟩
    · simp only [Array.size_append, Array.size_replicate, List.length_append, List.length_replicate, List.size_toArray]
      rw [hlen, ← hn, ← hal, hlen]
    · rcases Nat.lt_or_ge i vs.length with hi | hi
      · rw [List.getElem?_append_left (by omega)] at hx
        obtain ⟨v, hv, hr⟩ := hargs.get i x hx
        refine ⟨v, ?_, hr⟩
        rw [Array.getElem?_append_left (by simpa using hi)]
        simpa using hv
      · rw [List.getElem?_append_right (by omega), List.getElem?_replicate] at hx
        split at hx
        · rename_i hlt
          cases hx
          have hsz : i < (vs.toArray ++ Array.replicate (fn.ntmps - vs.toArray.size) undef).size := by
            simp only [Array.size_append, Array.size_replicate, List.size_toArray]
            omega
          exact ⟨_, Array.getElem?_eq_getElem hsz, Ra_undef⟩
        · cases hx
  refine calls_of_wp hf hb (wp_mono (runO_sound hsp hfr hm code lm ac lm' hc _ finO_nat r Γ _ _ w em0 h) fun e a w' hq => ?_)
  obtain ⟨Γ', S', em', hx, hk⟩ := hq
  have key : ∀ hk : finO c.rs slots (Dens c.rs) id .normal S' = some r, a.defers = [] ∧ ∃ v, (results fn a.tmps).run P w' = .ok v w' ∧ ∃ v' Γ', Ending.returned v = .returned v' ∧ Ext Γ [] w Γ' [] w' ∧ EmbH Γ' [] w' ∧ Ra w' Γ' (resAV c.rs r) v' := by
    intro hk
    simp only [finO] at hk
    split at hk
    · rename_i q y hy
      obtain ⟨hq, he⟩ := gdL_some.1 hk
      simp only [id, Option.some.injEq] at he
      subst he
      have hex : ∃ us, (∀ g : ResultVar → Sem Value, (∀ t, g (.tmp t) = pure (a.tmps.getD t undef)) → (∀ n t, g (.cell n t) = do loadVar t (← asAddr (a.tmps.getD n undef))) → (fn.results.toList.mapM g).run P w' = .ok us w') ∧ Rp w' (Γ'.freeze S'.H) (toAV (densL c.rs y)) us := by
        let g0 : ResultVar → Sem Value := fun | .tmp t => pure (a.tmps.getD t undef) | .cell n t => do loadVar t (← asAddr (a.tmps.getD n undef))
        obtain ⟨us, u1, u2⟩ := readR_sound em' (g := g0) (fun _ => rfl) (fun _ _ => rfl) hres hy hq
        refine ⟨us, fun g h1 h2 => ?_, u2⟩
        have : g = g0 := by funext x; cases x <;> simp [g0, h1, h2]
        rw [this]; exact u1
      obtain ⟨us, k1, k2⟩ := hex
      refine ⟨em'.defers, _, results_run k1, _, Γ'.freeze S'.H, rfl, ?_, freeze_emb em'.heap, ?_⟩
      · refine ⟨hx.fr, hx.size, hx.os, hx.out, fun n hn => absurd hn no_wr, fun n hn => ?_, fun n hn => .inl (hx.mi n hn), fun b hb => absurd hb (hA b)⟩
        rcases hn with hn | hn
        · exact hx.im n hn
        · rcases hx.wr n hn with h1 | h1
          · exact absurd h1 no_wr
          · exact .inr (.inr h1)
      · exact res_rep k2
    · cases hk
  cases e with
  | normal => exact key hk
  | ret => exact key hk
  | exit i => cases hk
  | goto l => exact hk.elim
  | panic c => exact hk.elim
  | outgrown => exact hk.elim

end
end Go.Ab
