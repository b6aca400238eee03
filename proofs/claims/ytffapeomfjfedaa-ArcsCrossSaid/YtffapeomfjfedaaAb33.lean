/- From a law's contract to what the given statement's frame asks for. -/
import Derived.Test.YtffapeomfjfedaaAb32
import Derived.ChangeSame
set_option linter.unusedVariables false
namespace Go.Ab

/-- All that was there is there. -/
structure Old (w w' : World) : Prop where
  fr : ∀ n, n < w.heap.size → w'.heap[n]? = w.heap[n]?
  size : w.heap.size ≤ w'.heap.size
  os : w'.os = w.os
  out : w'.output = w.output

theorem law_calls {P : Program} {f : FuncId} {ats : List AT} {pre : Cur (tsA ats) (List Prop)} {F : Cur (tsA ats) (Dens [.bool])} (h : (mkC f ats [.bool] pre F).Ok P)
    {env : List AV} (henv : EnvOk (tsA ats) env) {p : List Prop} (hpre : appC (tsA ats) pre env = some p) (hp : allP p) (hF : appC (tsA ats) F env = some (true, ()))
    {w : World} {I : Nat → Prop} (hI : ∀ n, I n → n < w.heap.size) {vs : List Value} (hargs : Fa w ⟨I, fun _ => False, fun _ => 0, fun _ => 0⟩ (argsAV ats env) vs) :
    Calls P f vs.toArray w fun en w' => en = .returned (.bool true) ∧ Old w w' := by
  have hem : EmbH ⟨I, fun _ => False, fun _ => 0, fun _ => 0⟩ [] w := by
    refine ⟨fun b B h => by simp at h, fun b b' h => by obtain ⟨B, h⟩ := h; simp at h, fun b h => by obtain ⟨B, h⟩ := h; simp at h, hI, fun b => ?_⟩
    exact ⟨fun h => h.elim, fun ⟨x, hx, _⟩ => by simp at hx⟩
  refine (h.2 ⟨I, fun _ => False, fun _ => 0, fun _ => 0⟩ w env p (true, ()) vs (fun _ h => h) hem henv hpre hF hp hargs).mono fun en w' hen => ?_
  obtain ⟨v, Γ', rfl, hx, _, hr⟩ := hen
  have hv : v = .bool true := Ra_bool.1 hr
  subst hv
  exact ⟨rfl, fun n hn => hx.fr n hn no_wr, hx.size, hx.os, hx.out⟩

theorem kept_of_old {W W' : World} {may : MemPlace → Prop} (h : Old W W') : W.keptBut W' may := by
  refine ⟨h.os, h.out, fun i hi => ?_⟩
  rw [h.fr i hi]
  cases W.heap[i]? with
  | none => trivial
  | some o => cases o with
    | cells c t fr => exact ⟨rfl, rfl, rfl, fun _ _ => rfl⟩
    | map es clock => exact .inr ⟨rfl, rfl⟩
    | _ => rfl

section
open Go.WideShapes Go.ChangeShapes
variable {H : Type} {enc : TypeId × Value → H} {P : Program}
theorem post_of_old {f : Func} {s : ChangeSpec} {apart fresh handsOn again : Bool} {W W' : World} {args : Array Value} {v : Value} {ds gs : List (DataW H)} {before pa pv : List MemPlace}
    (hW : DataW.Whole enc P f.params.toList s.vars apart W args.toList ds gs before)
    (hres : ∀ (b : Nat) (sp : Nat → Bool) (hd : Bool), DataW.TrodAll enc P W' b sp hd f.resultTypes.toList (v.resultList f.resultTypes.size) (s.fn H (ds ++ gs)).results [])
    (hargs : ∀ sp : Nat → Bool, (∀ p ∈ before, sp p.block = true) → DataW.TrodAll enc P W' 0 sp true f.params.toList args.toList (s.fn H (ds ++ gs)).args pa)
    (hvars : ∀ sp : Nat → Bool, (∀ p ∈ before, sp p.block = true) → DataW.TrodVars enc P W' sp s.vars (s.fn H (ds ++ gs)).vars pv)
    (hps : before = pa ++ pv) (ho : Old W W')
    (hok : ∀ (j : Nat) (t : TypeId) (r : Value), f.resultTypes[j]? = some t → (v.resultList f.resultTypes.size)[j]? = some r → Value.okWide P W' .any 0 t r) :
    s.post enc P f apart fresh handsOn again W args v W' := by
  have hold : ∀ p ∈ before, (fun b => decide (b < W.heap.size)) p.block = true := fun p hp => by simpa using hW.lt p hp
  refine ⟨ds, gs, before, [], pa, pv, hW, hres _ _ _, hargs _ hold, hvars _ hold, World.keptBut_mono (fun p hp => ⟨hp, ?_⟩) (kept_of_old (may := (· ∈ before)) ho), fun _ => ?_⟩
  · rw [hps, List.mem_append] at hp
    exact Or.inr hp
  · have hlt := hW.lt
    obtain ⟨_, _, _, _, _, hz, hn⟩ := hW
    refine ⟨hok, _, _, ([] ++ pa) ++ pv, ⟨[] ++ pa, pv, trodAll_append (hargs _ (fun _ _ => rfl)) (hres _ _ _), hvars _ (fun _ _ => rfl), rfl, ?_, ?_⟩, ?_⟩
    · intro b off hp
      have hp' : MemPlace.cell b off ∈ before := by rw [hps]; simpa using hp
      have h2 : (MemPlace.cell b off).block < W.heap.size := hlt _ hp'
      have h3 := hz b off hp'
      unfold World.frozen? at h3 ⊢
      have h4 : W'.heap[b]? = W.heap[b]? := ho.fr b h2
      simp only [h4]
      exact h3
    · intro ha
      have := hn ha
      rw [hps] at this
      simpa using this
    · intro p hp _
      rw [hps]
      simpa using hp
end

end Go.Ab
