/- From a program's function to the condition for its contract, in one term. -/
import Derived.Test.YtffapeomfjfedaaAb30
set_option linter.unusedVariables false
namespace Go.Ab

structure Comp where
  ac : AC
  n : Nat
  slots : List RS

noncomputable def comp (P : Program) (f : FuncId) (k : Nat) (ms : List Nat) (lm : List (List Nat)) : Option Comp :=
  match P.funcs[f]? with
  | some fn => match fn.name == "runtime.NumGoroutine" with
    | true => none
    | false => match fn.body with
      | some code => match cCode P ms code lm, resSlots P fn.results.toList with
        | some (ac, _), some slots => some ⟨ac, fn.ntmps - k, slots⟩
        | _, _ => none
      | none => none
  | none => none

/-- The condition for a contract. ms: the slots of literal slices that are written to; lm: the loops' places in the list, as lists of one. -/
noncomputable def Con.goal (P : Program) (sp : Spec) (c : Con) (L : List LSh) (ms : List Nat) (lm : List (List Nat)) : Prop :=
  match comp P c.f c.ats.length ms lm with
  | some ⟨ac, n, slots⟩ => c.vc sp L ac n slots
  | none => False

theorem Con.of_goal {P : Program} {cs : List Con} (hm : P.follows .mixedOrders = true) (h : ∀ c ∈ cs, c.Ok P) (c : Con) {L : List LSh} {ms : List Nat} {lm : List (List Nat)} (hg : c.goal P (spOf cs) L ms lm) : c.Ok P := by
  unfold Con.goal at hg
  split at hg
  · rename_i ac n slots hc
    unfold comp at hc
    split at hc
    · rename_i fn hf
      split at hc
      · cases hc
      · rename_i hnm
        split at hc
        · rename_i code hb
          split at hc
          · rename_i ac' lm' slots' h1 h2
            cases hc
            refine Con.prove c (specOk h) specFrame hm hf hb ?_ rfl h2 h1 hg
            simp [callable, hf, hnm, hb]
          · cases hc
        · cases hc
    · cases hc
  · exact hg.elim

end Go.Ab
