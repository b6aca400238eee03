/- Soundness, fifteenth part: what cOp gives does what the operation does. -/
import Derived.Test.YtffapeomfjfedaaAbM
set_option linter.unusedVariables false
set_option linter.unusedSimpArgs false
namespace Go.Ab

section
variable {P : Program} {Γ : Cx} {H : List Hs} {w : World} {S : St} {a : Act}

theorem cOp_does (em : Emb Γ S a w) {sp : Spec} (hsp : SpecOk P sp) (base : Nat) {ms : List Nat} {o : Oper} {k : Nat} {ao : AO} (h : cOp P ms o k = some ao)
    (hob : allP (aeff sp base S.T S.H ao).ob) : Does P Γ S.H w (aeff sp base S.T S.H ao) ((execOp a.eval o).run P w) := by
  cases ho : o.op with
  | move x =>
    simp only [cOp, ho] at h
    split at h
    · rename_i x' hx; cases h
      rw [aeff]
      exact does_mv em hx (by simp [execOp, ho])
    · cases h
  | assign x =>
    simp only [cOp, ho] at h
    split at h
    · rename_i x' hx; cases h
      rw [aeff]
      exact does_mv em hx (by simp [execOp, ho])
    · cases h
  | pick c x y =>
    simp only [cOp, ho] at h
    split at h
    · rename_i h1 h2 h3; cases h
      exact does_pick em sp base h1 h2 h3 ho hob
    · cases h
  | binOp op xt x y yt =>
    simp only [cOp, ho] at h
    split at h
    · rename_i h1 h2 h3
      split at h
      · rename_i b hb; cases h
        exact does_bin em sp base h1 h2 hb ho hob
      · cases h
    · rename_i x' y' d h3 h1 h2 h4
      split at h
      · rename_i ty hty
        split at h
        · rename_i hh
          simp only [Bool.and_eq_true, Bool.not_eq_true'] at hh
          split at h
          · cases h
            exact does_eqv (neg := false) em sp base h1 h2 rfl h4 (fun k hk => h3 k hk) hty hh.1 hh.2 ho hob
          · cases h
            exact does_eqv (neg := true) em sp base h1 h2 rfl h4 (fun k hk => h3 k hk) hty hh.1 hh.2 ho hob
          · cases h
        · cases h
      · cases h
    · cases h
  | unOp op t x =>
    simp only [cOp, ho] at h
    split at h
    · rename_i h1; cases h; exact does_not em sp base h1 ho hob
    · rename_i h1; cases h; exact does_neg em sp base h1 ho hob
    · cases h
  | build t ps =>
    simp only [cOp, ho] at h
    split at h
    · rename_i ty i fs h1 h2 h3
      split at h
      · rename_i z pl h4 h5
        split at h
        · rename_i l h6
          split at h
          · rename_i hh; cases h
            exact does_buildS em sp base h2 h3 h4 h5 h6 hh.1 hh.2.1 hh.2.2 ho hob
          · cases h
        · cases h
      · cases h
    · rename_i ty i n e h1 h2 h3
      split at h
      · rename_i z te h4 h5
        split at h
        · rename_i l h6
          split at h
          · rename_i hh; cases h
            exact does_buildA em sp base h2 h3 h4 h5 h6 hh.1 hh.2.1 hh.2.2 ho hob
          · cases h
        · cases h
      · cases h
    · cases h
  | load t x =>
    simp only [cOp, ho] at h
    split at h
    · rename_i h1 h2; cases h; exact does_load em sp base h2 h1 ho hob
    · cases h
  | store t x y =>
    simp only [cOp, ho] at h
    split at h
    · rename_i h1 h2 h3; cases h; exact does_store em sp base h2 h3 h1 ho hob
    · cases h
  | alloc e =>
    simp only [cOp, ho] at h
    split at h
    · rename_i h1 h2
      split at h
      · rename_i z hz
        split at h
        · rename_i hh
          split at h
          · rename_i B hB; cases h; exact does_alloc em sp base k h2 hz hh.1 hh.2 hB ho hob
          · cases h
        · cases h
      · cases h
    · cases h
  | box e x =>
    simp only [cOp, ho] at h
    split at h
    · rename_i h1 h2; cases h; exact does_box em sp base k h2 ho hob
    · cases h
  | nilCheck x =>
    simp only [cOp, ho] at h
    split at h
    · rename_i h1; cases h; exact does_nilc em sp base h1 ho hob
    · cases h
  | fieldAddr s x f =>
    simp only [cOp, ho] at h
    split at h
    · rename_i fs x' h1 h2
      split at h
      · rename_i fl h3
        split at h
        · rename_i te h4
          split at h
          · rename_i h5; cases h
            obtain ⟨i, d, hi, _, hs, _⟩ := tyS_spec h4
            refine does_fld em sp base h2 (fun b q he => ?_) hob
            simp [execOp, ho, he, Instr.fieldAt, run_underlying h1, h3, Instr.sureAddr, fieldPlace_run hi (show 0 < i.size by omega)]
          · cases h
        · cases h
      · cases h
    · cases h
  | field s x f =>
    simp only [cOp, ho] at h
    split at h
    · rename_i fs x' h1 h2
      split at h
      · rename_i fl h3
        split at h
        · rename_i te h4; cases h
          refine does_fldv em sp base h2 h4 (fun cs he => ?_) hob
          simp [execOp, ho, he, Instr.field, run_underlying h1, h3, Go.asAgg]
        · cases h
      · cases h
    · cases h
  | indexAddr t x i =>
    simp only [cOp, ho] at h
    split at h
    · rename_i e x' i' h1 h2 h3
      split at h
      · rename_i te h4; cases h; exact does_ixs em sp base h2 h3 h1 h4 ho hob
      · cases h
    · rename_i n e x' i' h1 h2 h3
      split at h
      · rename_i te h4
        split at h
        · rename_i c hc
          split at h
          · rename_i hr; cases h
            obtain ⟨inf, d, hi, _, hs, _⟩ := tyS_spec h4
            obtain ⟨kk, hk⟩ := constInt_sound (a := a) hc
            refine does_fld em sp base h2 (fun b q he => ?_) hob
            have := indexAt_array (P := P) (w := w) h1 hi (b := b) (off := q) (k := kk) hr
            simp [execOp, ho, he, hk, this, hs]
          · cases h
        · cases h; exact does_ixa em sp base h2 h3 h1 h4 ho hob
      · cases h
    · cases h
  | index t x i =>
    simp only [cOp, ho] at h
    split at h
    · rename_i n e x' i' h1 h2 h3
      split at h
      · rename_i te h4
        split at h
        · rename_i c hc
          split at h
          · rename_i hr; cases h
            obtain ⟨inf, d, hi, _, hs, _⟩ := tyS_spec h4
            obtain ⟨kk, hk⟩ := constInt_sound (a := a) hc
            refine does_fldv em sp base h2 h4 (fun cs he => ?_) hob
            simp [execOp, ho, he, hk, Instr.index, asIntOf, run_underlying h1, hr.1, hr.2, sizeOf, typeInfo, hi, hs]
          · cases h
        · cases h; exact does_ixv em sp base h2 h3 h1 h4 ho hob
      · cases h
    · cases h
  | slice t x lo hi mx =>
    simp only [cOp, ho] at h
    split at h
    · rename_i h1 h2 h3 h4 h5
      split at h
      · rename_i te h6; cases h; exact does_slc em sp base h2 h3 h4 h5 h1 h6 ho hob
      · cases h
    · rename_i n e x' lo' hi' h1 h2 h3 h4 h5
      split at h
      · rename_i te h6; cases h
        have hm : mx = none := by
          cases mx with
          | none => rfl
          | some m => simp only [cOpt] at h5; split at h5 <;> cases h5
        subst hm
        exact does_sla em sp base h2 h3 h4 h1 h6 ho hob
      · cases h
    · cases h
  | extract x i =>
    simp only [cOp, ho] at h
    split at h
    · rename_i h1; cases h; exact does_ext em sp base h1 ho hob
    · cases h
  | call c =>
    simp only [cOp, ho] at h
    split at h
    · rename_i f hf
      split at h
      · rename_i l hl
        split at h
        · rename_i hc; cases h; exact does_call em hsp base hf hl hc ho hob
        · cases h
      · cases h
    · rename_i g hg
      split at h
      · rename_i l hl; cases h
        exact does_callv em hsp base (g := .tmp g) (tg := none) hg rfl hl ho hob
      · cases h
    · rename_i hb
      split at h
      · rename_i x t hx ht
        split at h
        · rename_i e x' h1 h2; cases h
          have hx' : c.args = #[x] := Array.toList_inj.1 (by simpa using hx)
          have ht' : c.argTypes = #[t] := Array.toList_inj.1 (by simpa using ht)
          refine does_len em sp base h2 h1 ?_ hob
          simp [execOp, ho, resolve, hb, invoke, builtin, hx', ht']
        · rename_i n e h1; cases h
          have hx' : c.args = #[x] := Array.toList_inj.1 (by simpa using hx)
          have ht' : c.argTypes = #[t] := Array.toList_inj.1 (by simpa using ht)
          rw [aeff]
          refine Does.val em.heap (v := .int .i64 n) ?_ rfl (Ra_int.2 rfl)
          simp [execOp, ho, resolve, hb, invoke, builtin, hx', ht', Builtin.len_, run_underlying h1, goInt]
        · cases h
      · cases h
    · rename_i hb
      split at h
      · rename_i x xs hx; cases h
        refine does_mm em sp base hx ?_ hob
        simp only [execOp, ho, resolve, hb, invoke, builtin, Builtin.min_, Sem.run_bind, Sem.run_pure, Result.andThen_ok, Array.toList_map]
        cases hcl : c.args.toList with
        | nil => rw [hcl] at hx; simp [cOds] at hx
        | cons v r => simp
      · cases h
    · rename_i hb
      split at h
      · rename_i x xs hx; cases h
        refine does_mm em sp base hx ?_ hob
        simp only [execOp, ho, resolve, hb, invoke, builtin, Builtin.max_, Sem.run_bind, Sem.run_pure, Result.andThen_ok, Array.toList_map]
        cases hcl : c.args.toList with
        | nil => rw [hcl] at hx; simp [cOds] at hx
        | cons v r => simp
      · cases h
    · rename_i hb
      split at h
      · rename_i x y t u h1 h2
        split at h
        · rename_i e e' x' y' h3 h4 h5 h6
          split at h
          · rename_i te i h7 h8
            split at h
            · rename_i z hz
              split at h
              · rename_i hh; cases h
                obtain ⟨q1, q2, q3, q4⟩ := hh
                subst q4
                refine does_append em sp base k h5 h6 h3 h7 h8 hz q1 q2 ?_ hob
                have hx' : c.args = #[x, y] := Array.toList_inj.1 (by simpa using h1)
                have ht' : c.argTypes = #[t, t] := Array.toList_inj.1 (by simpa using h2)
                simp [execOp, ho, resolve, hb, invoke, builtin, hx', ht']
              · cases h
            · cases h
          · cases h
        · cases h
      · cases h
    · cases h
  | convert s d x =>
    simp only [cOp, ho] at h
    split at h
    · rename_i h1 h2 h3; cases h; exact does_conv em sp base h3 h1 h2 ho hob
    · cases h
  | makeFunc f first caps =>
    cases f with
    | func f =>
      simp only [cOp, ho] at h
      split at h
      · rename_i hf
        split at h
        · rename_i l hl
          split at h
          · cases h; exact does_mkfn em sp base hf hl ho hob
          · cases h
        · cases h
      · cases h
    | _ => simp [cOp, ho] at h
  | buildSlice t n ps =>
    simp only [cOp, ho] at h
    split at h
    · rename_i e h1
      split at h
      · rename_i te i h2 h3
        split at h
        · rename_i z l h4 h5
          split at h
          · rename_i hh
            split at h
            · cases h; exact does_bslicem em sp base k h1 h2 h3 h4 h5 hh.1 hh.2.1 hh.2.2.1 ho hob
            · cases h; exact does_bslice em sp base h1 h2 h3 h4 h5 hh.1 hh.2.1 hh.2.2.1 ho hob
          · cases h
        · cases h
      · cases h
    · cases h
  | lookup t x i ok =>
    simp only [cOp, ho] at h
    split at h
    · rename_i kt vt x' h1 h2
      split at h
      · rename_i k v inf h3 h4 h5
        split at h
        · rename_i i' z h6 h7
          split at h
          · rename_i d h8
            split at h
            · rename_i hh; cases h
              exact does_lookup em sp base h2 h6 h1 h3 h5 h7 h8 hh.1 hh.2 ho hob
            · cases h
          · cases h
        · cases h
      · cases h
    · cases h
  | mapUpdate t m x v =>
    simp only [cOp, ho] at h
    split at h
    · rename_i kt vt m' h1 h2
      split at h
      · rename_i k vv h3 h4
        split at h
        · rename_i x' v' h5 h6
          split at h
          · rename_i hh; cases h
            exact does_mapup em sp base h2 h5 h6 h1 h3 hh (.inl ho) hob
          · cases h
        · cases h
      · cases h
    · cases h
  | insert t m x v =>
    simp only [cOp, ho] at h
    split at h
    · rename_i kt vt m' h1 h2
      split at h
      · rename_i k vv h3 h4
        split at h
        · rename_i x' v' h5 h6
          split at h
          · rename_i hh; cases h
            exact does_mapup em sp base h2 h5 h6 h1 h3 hh (.inr ho) hob
          · cases h
        · cases h
      · cases h
    · cases h
  | makeMap t r =>
    cases r with
    | some r => simp [cOp, ho] at h
    | none =>
      simp only [cOp, ho] at h
      split at h
      · split at h
        · cases h; exact does_mkmap em sp base k ho hob
        · cases h
      · cases h
  | makeSlice t n c =>
    simp only [cOp, ho] at h
    split at h
    · rename_i h1 h2 h3
      split at h
      · rename_i te i h4 h5
        split at h
        · rename_i z hz
          split at h
          · rename_i hh
            split at h
            · rename_i x hx; cases h; exact does_mkslice em sp base k h1 h4 h5 hz hx hh.1 hh.2.1 hh.2.2 h2 h3 ho hob
            · cases h
          · cases h
        · cases h
      · cases h
    · cases h
  | _ => simp [cOp, ho] at h

end
end Go.Ab
