/- Fillings: the law. -/
import Derived.Test.YtobghbapmlnmoaaXD
set_option linter.unusedVariables false
set_option linter.unusedSimpArgs false
namespace Go.Schur
open Go Go.Ab Go.Proofs

theorem mem_catX {A : Type} {g : Int → List A} {t : A} : ∀ {c : Nat} {x : Int}, t ∈ catX g c x → ∃ y, x ≤ y ∧ y < x + c ∧ t ∈ g y
  | 0, x, h => by simp [catX] at h
  | c + 1, x, h => by
    rw [catX] at h
    rcases List.mem_append.1 h with h1 | h1
    · exact ⟨x, by omega, by omega, h1⟩
    · obtain ⟨y, h2, h3, h4⟩ := mem_catX h1
      exact ⟨y, by omega, by omega, h4⟩
theorem fil_mem {inner outer : List Int} {most : Int} {t : List (List Int)} : ∀ {n : Nat} {left : List Int} {rows : List (List Int)}, preM n inner outer left most false rows → t ∈ fil inner outer most false n left rows → t.length ≤ 8 ∧ ∀ r ∈ t, r.length ≤ 8 ∧ ∀ x ∈ r, 1 ≤ x ∧ x ≤ most
  | 0, left, rows, hp, h => by simp [fil] at h
  | n + 1, left, rows, hp, h => by
    rw [fil] at h
    split at h
    · rename_i hf
      split at h
      · rw [List.mem_singleton.1 h]
        exact ⟨hp.capR.1, fun r hr => ⟨hp.capR.2 r hr, hp.ent r hr⟩⟩
      · rename_i hl
        exact fil_mem (hp.open_ hf hl) h
    · rename_i hf
      have hf : full inner outer rows = false := by simpa using hf
      rcases List.eq_nil_or_concat rows with rfl | ⟨R, r, rfl⟩
      · simp [full] at hf
      rw [List.concat_eq_append] at *
      obtain ⟨y, h1, h2, h3⟩ := mem_catX h
      have hpos := leastF_pos (inner := inner) (rows := R ++ [r])
      unfold useX at h3
      rw [if_neg (by simp)] at h3
      have hlf := hp.lf rfl
      generalize hq : (y - 1).toNat = q at h3
      split at h3
      · cases h3
      · rename_i hz
        have hql : q < left.length := by omega
        have hv := hlf.2 _ (mem_getD (d := 0) hql)
        have hp2 : preM n inner outer (left.set q (left.getD q 0 - 1)) most false (R ++ [r ++ [y]]) := by
          refine hp.box hf ⟨by omega, by omega⟩ (fun _ => ⟨by simpa using hlf.1, fun z hy => ?_⟩)
          rcases List.mem_or_eq_of_mem_set hy with h2 | h2
          · exact hlf.2 z h2
          · omega
        rw [addX_app] at h3
        exact fil_mem hp2 h3
theorem each_ok3 {l m : List Int} (hl : shapeB l = true) (hm : contB m = true) : ok3 (eachF [] l m) := by
  have h1 := each_bd (inner := []) (outer := l) hm
  refine ⟨by unfold small; omega, fun t ht => ?_⟩
  unfold eachF at ht
  split at ht
  · have h2 := fil_mem (okIn_nil hl hm).pre ht
    exact ⟨by unfold small; omega, fun r hr => by have := (h2.2 r hr).1; unfold small; omega⟩
  · cases ht
theorem shape_take {l : List Int} : shapeB (l.take 12) = shapeB l := by
  by_cases h : l.length ≤ 12
  · rw [List.take_of_length_le h]
  · have h1 : decide ((l.take 12).length ≤ 8) = false := decide_eq_false (by simp; omega)
    have h2 : decide (l.length ≤ 8) = false := decide_eq_false (by omega)
    unfold shapeB
    rw [h1, h2]; rfl
theorem cont_take {l : List Int} : contB (l.take 12) = contB l := by
  by_cases h : l.length ≤ 12
  · rw [List.take_of_length_le h]
  · have h1 : decide ((l.take 12).length ≤ 8) = false := decide_eq_false (by simp; omega)
    have h2 : decide (l.length ≤ 8) = false := decide_eq_false (by omega)
    unfold contB
    rw [h1, h2]; rfl
theorem shape_take_id {l : List Int} (h : shapeB l = true) : l.take 12 = l := List.take_of_length_le (by have := (shapeB_iff.1 h).1; omega)
theorem cont_take_id {l : List Int} (h : contB l = true) : l.take 12 = l := List.take_of_length_le (by have := (contB_iff.1 h).1; omega)

theorem goal3 : con3.goal Try.prog (spOf [con20, con19, con21, con22, con23, con24, con25, con26]) g3_sh [] lm30 := by
  have e : (∀ (l m : List Int), (small l ∧ small m) → g3 l m = some (true, ())) = con3.goal Try.prog (spOf [con20, con19, con21, con22, con23, con24, con25, con26]) g3_sh [] lm30 := by kernel_rfl
  rw [← e]
  rintro l m ⟨hl, hm⟩
  have q1 : (l.take 12).length ≤ 1000 ∧ (m.take 12).length ≤ 1000 := ⟨by simp; omega, by simp; omega⟩
  unfold g3
  rw [gd_pos q1, gd_pos q1, gd_pos hl]
  cases hs : shapeB l with
  | false =>
    have e1 : fillF (l.take 12) (m.take 12) = ([], 2, ()) := by unfold fillF; rw [shape_take, hs]; simp
    have e2 : kosF (l.take 12) (m.take 12) = (0, 2, ()) := by unfold kosF; rw [shape_take, hs]; simp
    rw [e1, e2]
    simp [gd_true, ieq]
  | true =>
    cases hc : contB m with
    | false =>
      have e1 : fillF (l.take 12) (m.take 12) = ([], 2, ()) := by unfold fillF; rw [cont_take, hc]; simp
      have e2 : kosF (l.take 12) (m.take 12) = (0, 2, ()) := by unfold kosF; rw [cont_take, hc]; simp
      rw [e1, e2]
      simp [gd_true, ieq, hm]
    | true =>
      have e1 : fillF (l.take 12) (m.take 12) = (refFil l m, 0, ()) := by
        unfold fillF
        rw [shape_take, cont_take, hs, hc, if_pos ⟨rfl, rfl⟩, shape_take_id hs, cont_take_id hc, eachF_ref hs hc]
      have e2 : kosF (l.take 12) (m.take 12) = (((refFil l m).length : Int), 0, ()) := by
        unfold kosF
        rw [shape_take, cont_take, hs, hc, if_pos ⟨rfl, rfl⟩, shape_take_id hs, cont_take_id hc, eachB_len, eachF_ref hs hc]
      have h3 : ok3 (refFil l m) := by rw [← eachF_ref hs hc]; exact each_ok3 hs hc
      rw [e1, e2]
      simp [gd_true, ieq, hm, eqL3, h3]
set_option maxRecDepth 100000 in
theorem ok3law : con3.Ok Try.prog := Con.of_goal mixed (okC ok20 (okC ok19 (okC ok21 (okC ok22 (okC ok23 (okC ok24 (okC ok25 (okC ok26 okN)))))))) con3 goal3
end Go.Schur
