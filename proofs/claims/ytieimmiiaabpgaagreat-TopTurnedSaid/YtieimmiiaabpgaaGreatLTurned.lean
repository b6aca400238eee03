/- The given statement TopTurnedSaid: for every input the law returns true and leaves what was there. Proved out of the contract of the law's function. No conditions. -/
import Derived.Test.YtieimmiiaabpgaaGreatRows
import Derived.Test.YtieimmiiaabpgaaGreatXM
import Derived.Test.YtieimmiiaabpgaaGreatAS
import Derived.WalkKit
import Derived.ProofKit
import Derived.OpenShut
namespace Go.Proofs.YtieimmiiaabpgaaGreat.topTurned
open Go Go.ChangeShapes Go.WideShapes Go.ChangeAt Go.RowKit
set_option linter.unusedVariables false
theorem own : ownKnob Tryz.prog.godebug = none := by kernel_rfl
theorem ty3 : Ab.argTy Tryz.prog 6 3 = some (.int .i64) := by kernel_rfl
set_option maxRecDepth 100000 in
theorem lifted (os : Os) (started : os.Started) (H : Type) (enc : TypeId × Value → H) :
    ReturnsInHanded {} Tryz.checked os 3 .any (Rows.topTurnedSpec.pre6 enc Tryz.prog Tryz.f3 Rows.topTurnedRow.domain false) (Rows.topTurnedSpec.post enc Tryz.prog Tryz.f3 false true false false) := by
  refine returnsInHanded_of_change (C := Tryz.checked) own started (by kernel_rfl) Tryz.func3
    (ChangeSpec.witness6 (enc := enc) (C := Tryz.checked) false ⟨#[], #[.int .i64 0, .int .i64 0], []⟩ 8 (by kernel_rfl) (by kernel_rfl) (by kernel_rfl) (by kernel_rfl)) ?_
  intro W base args ds gs before hval0 hW hcnd _
  have hval : ∀ (j:Nat) t v, Tryz.f3.params[j]? = some t → args[j]? = some v → Value.okWide Tryz.prog W .any base t v := hval0
  have hW' := hW
  obtain ⟨p, q, hA0, hV, rfl, hfz, hnd⟩ := hW
  have hA : DataW.TrodAll enc Tryz.prog W 0 (fun _ => true) true Tryz.f3.params.toList args.toList ds p := hA0
  have hB := hA
  rw [Tryz.params3] at hA hval
  obtain ⟨v0, vs0, d0, ds0, p0, q0, hargs, rfl, rfl, h0, r0⟩ := trodAll_cons hA
  obtain ⟨v1, vs1, d1, ds1, p1, q1, rfl, rfl, rfl, h1, r1⟩ := trodAll_cons r0
  obtain ⟨rfl, rfl, rfl⟩ := trodAll_nil r1
  obtain rfl : args = #[v0, v1] := by cases args; simp_all
  obtain ⟨rfl, rfl⟩ := trodVars_none hV
  obtain ⟨x0, g0, k0⟩ := Ab.rep_arg ty3 (hval 0 3 v0 rfl rfl) h0
  obtain ⟨x1, g1, k1⟩ := Ab.rep_arg ty3 (hval 1 3 v1 rfl rfl) h1
  clear hA0 hval0
  have walk : Calls Tryz.prog 3 #[v0, v1] W fun e W' => e = .returned (.bool true) ∧ Ab.Old W W' :=
    Ab.law_calls Go.Top.ok3l (env := [.val (.int .i64) x0, .val (.int .i64) x1]) ⟨⟨_, rfl⟩, ⟨⟨_, rfl⟩, trivial⟩⟩ rfl (Ab.allP_nil) rfl (I := fun b => b < W.heap.size) (fun _ h => h) ⟨Ab.Ra_val.2 g0, Ab.Ra_val.2 g1, trivial⟩
  refine walk.mono fun e W' ⟨he, hg⟩ => ?_
  subst he
  have hT : ∀ t ∈ Tryz.f3.params.toList, Ab.ArgT Tryz.prog t := by
    rw [Tryz.params3]
    intro t ht
    simp only [List.mem_cons, List.not_mem_nil, or_false] at ht
    rcases ht with rfl | rfl
    · exact ⟨6, _, ty3⟩
    · exact ⟨6, _, ty3⟩
  exact ⟨_, rfl, Ab.post_of_old (pv := []) hW' (fun _ _ _ => (trodAll_cons_mk (shut_bool Tryz.underlying4 _) trodAll_mk0)) (fun sp hs => Ab.trodAll_old hg hT hB (fun x hx => hs x (by simpa using hx))) (fun _ _ => rfl) rfl
    hg (ok_one (by kernel_rfl) rfl (okWide_bool_mk Tryz.underlying4 _))⟩
theorem over : Rows.topTurnedRow.holds Tryz.pinned (OpenSpec.ofChange Rows.topTurnedSpec) :=
  OpenClaim.holds_of_wide 3 Tryz.f3 rfl rfl rfl rfl rfl rfl rfl ⟨rfl, rfl, rfl, rfl, rfl⟩ rfl rfl rfl rfl rfl (by kernel_rfl) Tryz.func3 (by kernel_rfl)
    (of_decide_eq_true (by kernel_rfl)) (by unfold Func.isWrapper; first | (rw [if_pos (by decide +kernel)]; kernel_rfl) | (rw [if_neg (by decide +kernel)]; exact ⟨rfl, rfl⟩))
    (fun os started H enc _ => lifted os started H enc)
theorem proved : Rows.TopTurnedSaid :=
  over
#print axioms proved
end Go.Proofs.YtieimmiiaabpgaaGreat.topTurned
