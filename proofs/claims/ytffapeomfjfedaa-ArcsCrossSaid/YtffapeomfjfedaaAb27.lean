/- Whole code: soundness. -/
import Derived.Test.YtffapeomfjfedaaAb26
set_option linter.unusedVariables false
set_option linter.unusedSimpArgs false
namespace Go.Ab

section
variable {P : Program} {sp : Spec} {L : List LSh}

theorem QK.mono {Γ0 Γ1 : Cx} {H0 H1 : List Hs} {w0 w1 : World} {K K' : Ex → St → Prop} (hx : Ext Γ0 H0 w0 Γ1 H1 w1) (hk : ∀ e S, K e S → K' e S) {e : Exit} {a : Act} {w : World} (h : QK Γ1 H1 w1 K e a w) : QK Γ0 H0 w0 K' e a w := by
  obtain ⟨Γ, S, em, hx', h⟩ := h
  refine ⟨Γ, S, em, hx.trans hx', ?_⟩
  cases e <;> first | exact hk _ _ h | exact h

theorem rep_false {n k : Nat} : (Array.replicate n false).getD k false = false := by
  rw [Array.getD_eq_getD_getElem?, Array.getElem?_replicate]
  split <;> rfl

theorem rep_count {n : Nat} : (Array.replicate n false).toList.countP (!·) = n := by
  rw [Array.toList_replicate, List.countP_replicate]
  rfl

/-- What follows, as a statement about its result. -/
def isK {X : Type} (K : KT X) (x : X) : Ex → St → Prop := fun e S => K X id e S = some x

theorem isK_of {X Y : Type} {K : KT X} (hK : NatK K) {f : X → Y} {e : Ex} {S : St} {y : Y} (h : K Y f e S = some y) : ∃ x, f x = y ∧ isK K x e S := by
  rw [hK] at h
  obtain ⟨x, h1, h2⟩ := Option.map_eq_some_iff.1 h
  exact ⟨x, h2, h1⟩

theorem runO_sound (hsp : SpecOk P sp) (hfr : SpecFrame sp) (hm : P.follows .mixedOrders = true) {ms : List Nat} : ∀ (code : Code) (lm : List (List Nat)) (ac : AC) (lm' : List (List Nat)), cCode P ms code lm = some (ac, lm') →
    ∀ {X : Type} (K : KT X) (hK : NatK K) (x : X) (Γ : Cx) (S : St) (a : Act) (w : World), Emb Γ S a w → runO sp L ac S K X id = some x → code.wp P (QK Γ S.H w (isK K x)) a w := by
  intro code
  induction code with
  | skip =>
    intro lm ac lm' hc X K hK x Γ S a w em hr
    simp only [cCode, Option.some.injEq, Prod.mk.injEq] at hc
    obtain ⟨rfl, _⟩ := hc
    exact wp_skip ⟨Γ, S, em, Ext.refl _ _ _, hr⟩
  | label l =>
    intro lm ac lm' hc X K hK x Γ S a w em hr
    simp only [cCode, Option.some.injEq, Prod.mk.injEq] at hc
    obtain ⟨rfl, _⟩ := hc
    exact wp_label ⟨Γ, S, em, Ext.refl _ _ _, hr⟩
  | region id ops draw =>
    intro lm ac lm' hc X K hK x Γ S a w em hr
    simp only [cCode] at hc
    split at hc
    · rename_i l m hl
      cases hc
      obtain ⟨em1, hx1⟩ := em.frees m
      cases draw with
      | false =>
        simp only [runO, Bool.false_eq_true, if_false] at hr
        obtain ⟨hob, hk⟩ := gdL_some.1 hr
        refine wp_region ?_
        rw [List.range_eq_range']
        refine seq_sound hsp S.H.length ops.size 0 0 m l (by simp) (by simpa using hl) 0 Γ _ a w em1 hob fun Γ' a' w' hx em' => ?_
        exact ⟨Γ', _, em', hx1.trans hx, hk⟩
      | true =>
        simp only [runO, if_true] at hr
        split at hr
        · rename_i hchk
          obtain ⟨hob, hk⟩ := gdL_some.1 hr
          refine wp_region_any hm ?_
          obtain ⟨em2, hx2⟩ := em1.drawn
          have hnone : appS (recL sp S.H.length l ⟨S.T, S.H ++ frees m⟩) (fun k => (Array.replicate ops.size false).getD k false) ⟨S.T, S.H ++ frees m⟩ = ⟨S.T, S.H ++ frees m⟩ := by
            refine foldK_id _ _ _ fun k e _ hl => ?_
            rw [rep_false] at hl; cases hl
          refine any_sound (Γ0 := Γ) (w0 := { w with drawn := w.drawn + 1 }) hsp hfr S.H.length hl hob hchk (fun Γ' a' w' hx em' => ⟨Γ', _, em', (hx1.trans hx2).trans hx, hk⟩) ops.size (Array.replicate ops.size false) Γ a _ (by simp) rep_count (fun j k hj _ => by rw [rep_false] at hj; cases hj) ?_ ?_
          · rw [hnone]; exact em2
          · rw [hnone]; exact Ext.refl _ _ _
        · cases hr
    · cases hc
  | seq c1 c2 ihx ihy =>
    intro lm ac lm' hc X K hK x Γ S a w em hr
    simp only [cCode] at hc
    split at hc
    · rename_i ax lm1 h1
      split at hc
      · rename_i ay lm2 h2
        cases hc
        simp only [runO] at hr
        have hK2 : NatK (seqK (fun S' K Y f => runO sp L ay S' K Y f) K) := fun Y f e S' => by
          cases e with
          | normal => exact runO_nat hK
          | exit i => exact hK _ _ _ _
          | ret => exact hK _ _ _ _
        refine wp_seq (wp_mono (ihx _ _ _ h1 _ hK2 x Γ S a w em hr) fun e a' w' hq => ?_)
        obtain ⟨Γ', S', em', hx', hk⟩ := hq
        cases e with
        | normal => exact wp_mono (ihy _ _ _ h2 K hK x Γ' S' a' w' em' hk) fun e a w h => QK.mono hx' (fun _ _ h => h) h
        | exit i => exact ⟨Γ', S', em', hx', hk⟩
        | ret => exact ⟨Γ', S', em', hx', hk⟩
        | goto l => exact hk.elim
        | panic c => exact hk.elim
        | outgrown => exact hk.elim
      · cases hc
    · cases hc
  | cond c c1 c2 ihx ihy =>
    intro lm ac lm' hc X K hK x Γ S a w em hr
    simp only [cCode] at hc
    split at hc
    · rename_i c' ax lm1 h0 h1
      split at hc
      · rename_i ay lm2 h2
        cases hc
        simp only [runO] at hr
        split at hr
        · rename_i b hb
          obtain ⟨hp, hx⟩ := gdL_some.1 hr
          have r := peel_sound (cOd_sound em h0) hp
          have hv := asBool_sound hb r
          exact wp_cond_split hv (fun h => ihx _ _ _ h1 K hK x Γ S a w em (by rw [h] at hx; exact hx)) (fun h => ihy _ _ _ h2 K hK x Γ S a w em (by rw [h] at hx; exact hx))
        · cases hr
      · cases hc
    · cases hc
  | block id c ih =>
    intro lm ac lm' hc X K hK x Γ S a w em hr
    simp only [cCode] at hc
    split at hc
    · rename_i ax lm1 h1
      cases hc
      simp only [runO] at hr
      refine wp_block (wp_mono (ih _ _ _ h1 _ (blkK_nat hK) x Γ S a w em hr) fun e a' w' hq => ?_)
      obtain ⟨Γ', S', em', hx', hk⟩ := hq
      cases e with
      | normal => exact ⟨Γ', S', em', hx', hk⟩
      | exit i =>
        simp only [isK, blkK] at hk
        simp only [Exit.inBlock]
        split at hk
        · rename_i hi
          have hi : i = id := by simpa using hi
          rw [if_pos hi]
          exact ⟨Γ', S', em', hx', hk⟩
        · rename_i hi
          have hi : ¬ i = id := fun h => by subst h; rw [Nat.beq_refl] at hi; cases hi
          rw [if_neg hi]
          exact ⟨Γ', S', em', hx', hk⟩
      | ret => exact ⟨Γ', S', em', hx', hk⟩
      | goto l => exact hk.elim
      | panic c => exact hk.elim
      | outgrown => exact hk.elim
    · cases hc
  | loop c ih =>
    intro lm ac lm' hc X K hK x Γ S a w em hr
    simp only [cCode] at hc
    split at hc
    · rename_i ax lm1 h1
      cases hc
      simp only [runO] at hr
      split at hr
      · rename_i ls hls
        split at hr
        · rename_i p env0 hrd
          split at hr
          · rename_i d0 hd0
            obtain ⟨hp, hw⟩ := gdL_some.1 hr
            have he0 := toD_eq hd0 (readH_ok hrd)
            subst he0
            obtain ⟨Γ1, em1, hx1⟩ := reload (asg := asg L ax ++ slotsOf ls.sl) em em (Ext.refl _ _ _) rfl (fun _ _ => rfl) hrd hp
            obtain ⟨n0, hn0⟩ := whileO_some.1 hw
            refine wp_loopN (fun n a' w' => ∃ Γ' d, whileN (fun d => runO sp L ax (headS (asg L ax ++ slotsOf ls.sl) ls.sl ls.bl S (densL ls.ts d)) (loopK ls K) (Lp (Dens ls.ts) X) (Lp.map id)) n d = some x ∧
              Emb Γ' (headS (asg L ax ++ slotsOf ls.sl) ls.sl ls.bl S (densL ls.ts d)) a' w' ∧
              Ext Γ S.H w Γ' (headS (asg L ax ++ slotsOf ls.sl) ls.sl ls.bl S (densL ls.ts d)).H w') ⟨n0, Γ1, d0, hn0, em1, hx1⟩ ?_
            rintro n a' w' ⟨Γ', d, hn, em', hx'⟩
            cases n with
            | zero => cases hn
            | succ n =>
              rw [whileN] at hn
              have hnk := loopK_nat (ls := ls) hK
              cases hst : runO sp L ax (headS (asg L ax ++ slotsOf ls.sl) ls.sl ls.bl S (densL ls.ts d)) (loopK ls K) (Lp (Dens ls.ts) X) (Lp.map id) with
              | none => rw [hst] at hn; cases hn
              | some r =>
                rw [hst] at hn
                have hst2 : runO sp L ax (headS (asg L ax ++ slotsOf ls.sl) ls.sl ls.bl S (densL ls.ts d)) (loopK ls K) (Lp (Dens ls.ts) X) id = some r := by
                  rw [runO_nat hnk] at hst
                  obtain ⟨r', hst', hr'⟩ := Option.map_eq_some_iff.1 hst
                  rw [Lp.map_id] at hr'
                  subst hr'
                  exact hst'
                have hb := runO_agr hst2
                have hka : NatK (agrK (asg L ax) (headS (asg L ax ++ slotsOf ls.sl) ls.sl ls.bl S (densL ls.ts d)) (loopK ls K)) := fun Y f e S' => by
                  simp only [agrK]; rw [gd_map, hnk]
                refine wp_mono (ih _ _ _ h1 _ hka r Γ' _ a' w' em' hb) fun e a2 w2 hq => ?_
                obtain ⟨Γ2, S2, em2, hx2, hk⟩ := hq
                have exitK : ∀ ex, (∃ i, ex = .exit i ∨ ex = .ret) → agrK (asg L ax) (headS (asg L ax ++ slotsOf ls.sl) ls.sl ls.bl S (densL ls.ts d)) (loopK ls K) (Lp (Dens ls.ts) X) id ex S2 = some r → isK K x ex S2 := fun ex hex hh => by
                  obtain ⟨_, hh⟩ := gd_some.1 hh
                  have : K (Lp (Dens ls.ts) X) (fun x => .out x) ex S2 = some r := by
                    cases ex with
                    | normal => obtain ⟨_, h | h⟩ := hex <;> cases h
                    | exit i => exact hh
                    | ret => exact hh
                  obtain ⟨x', e1, e2⟩ := isK_of hK this
                  subst e1
                  simp only [Option.some.injEq] at hn
                  rw [← hn]; exact e2
                cases e with
                | normal =>
                  obtain ⟨hag, hk⟩ := gd_some.1 hk
                  simp only [loopK] at hk
                  split at hk
                  · rename_i q env' hrd'
                    split at hk
                    · rename_i d' hd'
                      obtain ⟨hq, hk⟩ := gdL_some.1 hk
                      simp only [id, Option.some.injEq] at hk
                      subst hk
                      have he' := toD_eq hd' (readH_ok hrd')
                      subst he'
                      have hag' : Agr (asg L ax ++ slotsOf ls.sl) S S2 := head_agr.trans (hag.mono fun n hn => List.mem_append_left _ hn)
                      obtain ⟨Γ3, em3, hx3⟩ := reload (asg := asg L ax ++ slotsOf ls.sl) em em2 (hx'.trans hx2) hag'.len hag'.get hrd' hq
                      exact ⟨n, Nat.lt_succ_self n, Γ3, d', hn, em3, hx3⟩
                    · cases hk
                  · cases hk
                | exit i => exact ⟨Γ2, S2, em2, hx'.trans hx2, exitK _ ⟨i, .inl rfl⟩ hk⟩
                | ret => exact ⟨Γ2, S2, em2, hx'.trans hx2, exitK _ ⟨0, .inr rfl⟩ hk⟩
                | goto l => exact hk.elim
                | panic c => exact hk.elim
                | outgrown => exact hk.elim
          · cases hr
        · cases hr
      · cases hr
    · cases hc
  | exit id =>
    intro lm ac lm' hc X K hK x Γ S a w em hr
    simp only [cCode, Option.some.injEq, Prod.mk.injEq] at hc
    obtain ⟨rfl, _⟩ := hc
    exact wp_exit ⟨Γ, S, em, Ext.refl _ _ _, hr⟩
  | ret =>
    intro lm ac lm' hc X K hK x Γ S a w em hr
    simp only [cCode, Option.some.injEq, Prod.mk.injEq] at hc
    obtain ⟨rfl, _⟩ := hc
    exact wp_ret ⟨Γ, S, em, Ext.refl _ _ _, hr⟩
  | _ => intro lm ac lm' hc; simp [cCode] at hc

end
end Go.Ab
