/- Soundness, fourteenth part: calls; every operation. -/
import Derived.Test.YtffapeomfjfedaaAb16
set_option linter.unusedVariables false
set_option linter.unusedSimpArgs false
namespace Go.Ab

section
variable {P : Program} {Γ : Cx} {H : List Hs} {w : World} {S : St} {a : Act}

theorem peels_sound : ∀ {l : List AV} {vs : List Value}, Fa w Γ l vs → allP (peels l).1 → Fa w Γ (peels l).2 vs
  | [], [], h, _ => trivial
  | x :: l, v :: vs, h, hp => by
    obtain ⟨p1, p2⟩ := allP_app.1 hp
    exact ⟨peel_sound h.1 p1, peels_sound h.2 p2⟩
  | [], _ :: _, h, _ => h.elim
  | _ :: _, [], h, _ => h.elim

theorem callFunc_run {f : FuncId} (hc : callable P f = true) (args : Array Value) : (callFunc f args).run P w = .ok (.enter f args) w := by
  unfold callable at hc
  unfold callFunc
  simp only [Sem.run_bind, run_program, Result.andThen_ok]
  cases hf : P.funcs[f]? with
  | none => rw [hf] at hc; cases hc
  | some fn =>
    rw [hf] at hc
    simp only [Bool.and_eq_true, Bool.not_eq_true'] at hc
    have h2 : fn.body.isNone = false := by cases hb : fn.body <;> simp [hb] at hc ⊢
    simp [hc.1, h2]

theorem Does.call {sp : Spec} (hsp : SpecOk P sp) (em : EmbH Γ H w) {base : Nat} {f : FuncId} {args : List AV} {vs : List Value} (hf : Fa w Γ args vs) (hob : allP (sp f H base args).ob) {e : Ef} (he : e.v = (sp f H base args).v) (hu : e.up = (sp f H base args).up)
    {r : Result Next} (hr : r = .ok (.enter f vs.toArray) w) : Does P Γ H w e r := by
  refine .inr ⟨f, vs.toArray, hr, ?_⟩
  have := (hsp f H base args hob).2 Γ w vs em hf
  rw [he, hu]
  exact this

theorem does_call (em : Emb Γ S a w) {sp : Spec} (hsp : SpecOk P sp) (base : Nat) {tys : List (Option Ty)} {c : Call} {f : FuncId} {l : List Od} (hf : c.callee = .value (.func f)) (hl : cOds tys c.args.toList = some l) (hc : callable P f = true)
    {o : Oper} (ho : o.op = .call c) (hob : allP (aeff sp base S.T S.H (.call f l)).ob) : Does P Γ S.H w (aeff sp base S.T S.H (.call f l)) ((execOp a.eval o).run P w) := by
  rw [aeff] at hob ⊢
  obtain ⟨p, hob⟩ := allP_app.1 hob
  refine Does.call hsp em.heap (peels_sound (cOds_sound em hl) p) hob rfl rfl ?_
  have hm : c.args.map a.eval = (c.args.toList.map a.eval).toArray := by cases c.args; simp
  have hev : a.eval (.func f) = .func (.func f) #[] #[] := rfl
  simp only [execOp, ho, resolve, hf, hev, Deferred.ofValue, Sem.run_bind, Sem.run_pure, Result.andThen_ok, invoke, hm]
  simpa using callFunc_run hc _

theorem does_callv (em : Emb Γ S a w) {sp : Spec} (hsp : SpecOk P sp) (base : Nat) {tys : List (Option Ty)} {c : Call} {g : Operand} {g' : Od} {tg : Option Ty} {l : List Od} (hf : c.callee = .value g) (hg : cOd tg g = some g') (hl : cOds tys c.args.toList = some l)
    {o : Oper} (ho : o.op = .call c) (hob : allP (aeff sp base S.T S.H (.callv g' l)).ob) : Does P Γ S.H w (aeff sp base S.T S.H (.callv g' l)) ((execOp a.eval o).run P w) := by
  have r1 := cOd_sound em hg
  rw [aeff] at hob ⊢
  have hob0 := p1_ob hob
  clear hob
  obtain ⟨p, hob⟩ := hob0
  have r1 := peel_sound r1 p
  revert hob
  dsimp only [p1]
  generalize (peel (ev S.T g')).2 = X at r1
  intro hob
  cases X with
  | fn f caps =>
    simp only at hob ⊢
    by_cases hl' : isL caps = true
    · rw [if_pos hl'] at hob ⊢
      obtain ⟨p2, hob⟩ := allP_app.1 hob
      simp only [Ra, Rp, List.cons.injEq, and_true] at r1
      obtain ⟨us, hv, hr⟩ := r1
      have hc := (hsp _ _ _ _ hob).1
      refine Does.call hsp em.heap ((peels_sound (cOds_sound em hl) p2).app (isL_sound hl' hr)) hob rfl rfl ?_
      have hm : c.args.map a.eval = (c.args.toList.map a.eval).toArray := by cases c.args; simp
      simp only [execOp, ho, resolve, hf, hv, Deferred.ofValue, Sem.run_bind, Sem.run_pure, Result.andThen_ok, invoke, hm]
      simpa using callFunc_run hc _
    · rw [if_neg hl'] at hob; exact fail_elim hob
  | _ => exact fail_elim hob

end
end Go.Ab
