/- Regions: soundness, joined. -/
import Derived.Test.YtffapeomfjfedaaAb22
set_option linter.unusedVariables false
set_option linter.unusedSimpArgs false
namespace Go.Ab

section
variable {P : Program} {sp : Spec}

theorem cReg_get {ms : List Nat} {all : Array Oper} : ∀ {os : List Oper} {k m : Nat} {l : List AOp}, cReg P ms all os k = some (l, m) → l.length = os.length ∧
    ∀ (i : Nat) (o : Oper), os[i]? = some o → ∃ ao g k', l[i]? = some ⟨o.dst, ao, g⟩ ∧ cOp P ms o k' = some ao ∧ cGuard all o.guard = some g
  | [], k, m, l, h => by
    simp only [cReg, Option.some.injEq, Prod.mk.injEq] at h
    obtain ⟨rfl, _⟩ := h
    exact ⟨rfl, fun i o h => by simp at h⟩
  | o :: os, k, m, l, h => by
    obtain ⟨ao, g, l', rfl, h1, h2, h3⟩ := cReg_cons h
    obtain ⟨g1, g2⟩ := cReg_get h3
    refine ⟨by simp [g1], fun i o' ho' => ?_⟩
    cases i with
    | zero =>
      simp only [List.getElem?_cons_zero, Option.some.injEq] at ho'
      subst ho'
      exact ⟨ao, g, k, rfl, h1, h2⟩
    | succ i =>
      obtain ⟨ao', g', k', q1, q2, q3⟩ := g2 i o' (by simpa using ho')
      exact ⟨ao', g', k', by simpa using q1, q2, q3⟩

theorem any_sound (hsp : SpecOk P sp) (hfr : SpecFrame sp) (base : Nat) {ms : List Nat} {ops : Array Oper} {l : List AOp} {m : Nat} (hc : cReg P ms ops ops.toList 0 = some (l, m)) {S : St}
    (hob : allP (runL sp base 0 l S).ob) (hchk : chkAll (masks ops.toList []) [] (runL sp base 0 l S).inf = true) {Q : Exit → Act → World → Prop} {Γ0 : Cx} {w0 : World}
    (hq : ∀ Γ' a' w', Ext Γ0 S.H w0 Γ' (runL sp base 0 l S).S.H w' → Emb Γ' (runL sp base 0 l S).S a' w' → Q .normal a' w') :
    ∀ (fuel : Nat) (listed : Array Bool) (Γ : Cx) (a : Act) (w : World), listed.size = ops.size → listed.toList.countP (!·) = fuel →
      (∀ j k, listed.getD j false = true → ((masks ops.toList []).getD j 0).testBit k = true → listed.getD k false = true) →
      Emb Γ (appS (recL sp base l S) (fun k => listed.getD k false) S) a w → Ext Γ0 S.H w0 Γ (appS (recL sp base l S) (fun k => listed.getD k false) S).H w →
      wpAny P .any ops Q fuel listed a w := by
  obtain ⟨hlen, hget⟩ := cReg_get hc
  have hinf : ∀ (j : Nat) (p : Rec), (recL sp base l S)[j]? = some p → (runL sp base 0 l S).inf[j]? = some (ifo j p) := fun j p hj => by
    rw [runL_inf, hj]; simp
  have hM : ∀ (i : Nat) (o : Oper), ops[i]? = some o → (masks ops.toList []).getD i 0 = maskOf ((masks ops.toList []).take i) o.after.toList := fun i o ho => by
    have := masks_get (os := ops.toList) (acc := []) (i := i) (o := o) (by simpa using ho)
    simp only [List.length_nil, Nat.zero_add] at this
    rw [List.getD, this]; rfl
  have hrec : ∀ (i : Nat), i < ops.size → ∃ p, (recL sp base l S)[i]? = some p := fun i hi => by
    have : i < (recL sp base l S).length := by rw [recL_length, hlen]; simpa using hi
    exact ⟨_, List.getElem?_eq_getElem this⟩
  have hord : ∀ (j k : Nat) (p q : Rec), (recL sp base l S)[j]? = some p → (recL sp base l S)[k]? = some q → k < j → ((masks ops.toList []).getD j 0).testBit k = true ∨ Indep (ifo k q) (ifo j p) := fun j k p q hj hk hkj =>
    ((chkAll_spec hchk) j _ (hinf j p hj)).2.2 k _ hkj (hinf k q hk)
  have hlow : ∀ (j k : Nat) (p : Rec), (recL sp base l S)[j]? = some p → ((masks ops.toList []).getD j 0).testBit k = true → k < j := fun j k p hj hk => by
    have h1 : (masks ops.toList []).getD j 0 < 2 ^ j := ((chkAll_spec hchk) j _ (hinf j p hj)).1
    rcases Nat.lt_or_ge k j with h | h
    · exact h
    · rw [Nat.testBit_lt_two_pow (Nat.lt_of_lt_of_le h1 (Nat.pow_le_pow_right (by omega) h))] at hk; cases hk
  -- the end
  have hend : ∀ (listed : Array Bool) (Γ : Cx) (a : Act) (w : World), (∀ i, i < ops.size → listed.getD i false = true) →
      Emb Γ (appS (recL sp base l S) (fun k => listed.getD k false) S) a w → Ext Γ0 S.H w0 Γ (appS (recL sp base l S) (fun k => listed.getD k false) S).H w → Q .normal a w := fun listed Γ a w hall em hx => by
    have he : appS (recL sp base l S) (fun k => listed.getD k false) S = (runL sp base 0 l S).S := by
      rw [runL_S, ← foldK_true _ 0]
      refine foldK_agree _ 0 _ fun k e hk hne => ?_
      have : k < ops.size := by
        have h1 : k < (recL sp base l S).length := by
          rcases Nat.lt_or_ge k (recL sp base l S).length with h | h
          · exact h
          · rw [List.getElem?_eq_none h] at hk; cases hk
        rw [recL_length, hlen] at h1; simpa using h1
      exact absurd (by simp only [Nat.zero_add]; exact hall k this) hne
    rw [he] at em hx
    exact hq Γ a w hx em
  -- nothing is ready only when all is listed
  have hnone : ∀ (listed : Array Bool), listed.size = ops.size → Region.ready .any ops listed = [] → ∀ i, i < ops.size → listed.getD i false = true := fun listed hs hr i => by
    induction i using Nat.strongRecOn with
    | _ i ih =>
      intro hi
      cases hl : listed.getD i false with
      | true => rfl
      | false =>
        exfalso
        have : i ∈ Region.ready .any ops listed := by
          rw [mem_ready]
          refine ⟨?_, ops[i], Array.getElem?_eq_getElem hi, fun e he hb => ?_⟩
          · have hi' : i < listed.size := by omega
            simpa [hi'] using hl
          · obtain ⟨p, hp⟩ := hrec i hi
            have h1 : ((masks ops.toList []).getD i 0).testBit e.on = true := by
              rw [hM i _ (Array.getElem?_eq_getElem hi)]
              exact maskOf_self (by simpa using he) hb
            have h2 := hlow i e.on p hp h1
            exact ih e.on h2 (by omega)
        rw [hr] at this; cases this
  intro fuel
  induction fuel with
  | zero =>
    intro listed Γ a w hs hcnt hclosed em hx
    have hall : ∀ i, i < ops.size → listed.getD i false = true := fun i hi => by
      have hi' : i < listed.size := by omega
      have := List.countP_eq_zero.1 hcnt (listed[i]) (by simp)
      simpa [hi'] using this
    refine ⟨?_, hend listed Γ a w hall em hx⟩
    cases hr : Region.ready .any ops listed with
    | nil => rfl
    | cons i r =>
      exfalso
      have : i ∈ Region.ready .any ops listed := by rw [hr]; simp
      rw [mem_ready] at this
      obtain ⟨h1, o, h2, _⟩ := this
      have hi : i < ops.size := (Array.getElem?_eq_some_iff.1 h2).1
      have hi' : i < listed.size := by omega
      have := hall i hi
      simp only [Array.getD, hi', dite_true] at h1 this
      rw [h1] at this; cases this
  | succ fuel ih =>
    intro listed Γ a w hs hcnt hclosed em hx
    refine ⟨fun hr => hend listed Γ a w (hnone listed hs hr) em hx, fun i hi => ?_⟩
    rw [mem_ready] at hi
    obtain ⟨hli, o, ho, hedges⟩ := hi
    have hin : i < ops.size := (Array.getElem?_eq_some_iff.1 ho).1
    have hil : i < listed.size := by omega
    have hLi : listed.getD i false = false := by simpa [hil] using hli
    obtain ⟨p, hp⟩ := hrec i hin
    obtain ⟨q1, q2⟩ := recL_get i p 0 hp
    obtain ⟨ao, g, k', g1, g2, g3⟩ := hget i o (by simpa using ho)
    rw [g1] at q1
    simp only [Option.some.injEq] at q1
    have hobp : allP p.2.ob := runL_ob hob i p hp
    -- predecessors are listed
    have hpre : ∀ k, ((masks ops.toList []).getD i 0).testBit k = true → listed.getD k false = true := fun k hk => by
      rw [hM i o ho] at hk
      obtain ⟨e, he, hb, h⟩ := maskOf_spec hk
      have hon := hedges e (by simpa using he) hb
      rcases h with rfl | h
      · exact hon
      · refine hclosed e.on k hon ?_
        have : (masks ops.toList [])[e.on]? ≠ none → ((masks ops.toList []).take i).getD e.on 0 = (masks ops.toList []).getD e.on 0 ∨ ((masks ops.toList []).take i).getD e.on 0 = 0 := fun _ => by
          simp only [List.getD, List.getElem?_take]
          split
          · exact .inl rfl
          · exact .inr rfl
        simp only [List.getD, List.getElem?_take] at h
        split at h
        · simpa [List.getD] using h
        · simp at h
    -- what stands out of order is apart
    have hsep : ∀ k q, (recL sp base l S)[k]? = some q → listed.getD k false ≠ decide (k < i) → (k < i ∧ Indep (ifo k q) (ifo i p)) ∨ (i < k ∧ Indep (ifo i p) (ifo k q)) := fun k q hk hne => by
      rcases Nat.lt_trichotomy k i with h | h | h
      · have hk0 : listed.getD k false = false := by simpa [h] using hne
        refine .inl ⟨h, (hord i k p q hp hk h).resolve_left fun hb => ?_⟩
        rw [hpre k hb] at hk0; cases hk0
      · subst h
        simp [hLi] at hne
      · have hk1 : listed.getD k false = true := by
          have : ¬ k < i := by omega
          simpa [this] using hne
        refine .inr ⟨h, (hord k i q p hk hp h).resolve_left fun hb => ?_⟩
        rw [hclosed k i hk1 hb] at hLi; cases hLi
    have hrel : GRel sp base (appS (recL sp base l S) (fun k => listed.getD k false) S) p.1 p.2 := by
      let pre : St := appS (recL sp base l S) (fun k => decide (k < i)) S
      have e2 : p.2 = geff sp base pre.T pre.H p.1 := by rw [q2]; simp only [Nat.zero_add]; rfl
      have r0 : GRel sp base pre p.1 p.2 := by rw [e2] at hobp ⊢; exact geff_rel hobp
      refine r0.move hfr (by rw [e2] at hobp ⊢; exact geff_rd hobp) ?_ ?_ ?_
      · intro n hn
        rw [getD_eq, getD_eq]
        show ((appS _ _ S).T[n]?).getD _ = _
        rw [appS_T, appS_T]
        congr 1
        refine foldK_agree _ 0 _ fun k q hk hne => ?_
        rw [Nat.zero_add] at hne
        rcases hsep k q hk (Ne.symm hne) with ⟨_, h⟩ | ⟨_, h⟩
        · exact actT_id (h.du n hn)
        · exact actT_id (h.ud n hn)
      · intro b hb
        show (appS _ _ S).H[b]? = (appS _ _ S).H[b]?
        rw [appS_H, appS_H]
        refine foldK_agree _ 0 _ fun k q hk hne => ?_
        rw [Nat.zero_add] at hne
        rcases hsep k q hk hne with ⟨_, h⟩ | ⟨_, h⟩
        · exact actH_id fun hq => h.ur b hq hb
        · exact actH_id fun hq => h.ru b hb hq
      · intro u hu
        have hbu : u.1 ∈ (ifo i p).ups := List.mem_map_of_mem hu
        show (appS _ _ S).H[u.1]? = (appS _ _ S).H[u.1]?
        rw [appS_H, appS_H]
        refine foldK_agree _ 0 _ fun k q hk hne => ?_
        rw [Nat.zero_add] at hne
        rcases hsep k q hk hne with ⟨_, h⟩ | ⟨_, h⟩
        · exact actH_id fun hq => h.uu u.1 hq hbu
        · exact actH_id fun hq => h.uu u.1 hbu hq
    have hadd : appS (recL sp base l S) (fun k => (listed.setIfInBounds i true).getD k false) S = (appS (recL sp base l S) (fun k => listed.getD k false) S).step p.1.dst p.2 := by
      have hL : (fun k => (listed.setIfInBounds i true).getD k false) = addL (fun k => listed.getD k false) i := by
        funext k
        by_cases hki : k = i
        · subst hki
          simp [addL, hil]
        · rw [getD_set_ne false (Ne.symm hki)]
          simp [addL, hki]
      rw [hL]
      refine appS_add hp hLi fun k q hk hq hl => ?_
      rcases hsep k q hq (by rw [hl]; simp; omega) with ⟨h, _⟩ | ⟨_, h⟩
      · omega
      · exact h
    rw [← q1] at hrel hadd
    refine grel_step em hsp base ho g2 g3 hrel fun Γ' a' w' hx' em' => ?_
    refine ih (listed.setIfInBounds i true) Γ' a' w' (by simpa using hs) ?_ ?_ ?_ ?_
    · rw [Array.toList_setIfInBounds, List.countP_set (by simpa using hil)]
      have : listed.toList[i] = false := by simpa [hil] using hLi
      simp [this, hcnt]
    · intro j k hj hk
      by_cases hji : j = i
      · subst hji
        exact getD_set_true (hpre k hk)
      · rw [getD_set_ne false (Ne.symm hji)] at hj
        exact getD_set_true (hclosed j k hj hk)
    · rw [hadd]; exact em'
    · rw [hadd]; exact hx.trans hx'

end
end Go.Ab
