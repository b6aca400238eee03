/- Soundness, fourth part: addresses, slices, tuples, arrays, equality. -/
import Derived.Test.YtffapeomfjfedaaAb6
set_option linter.unusedVariables false
set_option linter.unusedSimpArgs false
namespace Go.Ab

section
variable {P : Program} {Γ : Cx} {H : List Hs} {w : World} {S : St} {a : Act}

theorem Ra_ref {b s i o : Nat} {v : Value} : Ra w Γ (.ref b s i o) v ↔ Γ.A b ∧ v = .pointer (some ⟨Γ.ν b, i * s + o, none⟩) := by
  simp only [Ra, Rp, List.cons.injEq, and_true]

theorem Ra_sl {b s i len : Nat} {c : Option Nat} {v : Value} : Ra w Γ (.sl b s i len c) v ↔ Γ.A b ∧ ∃ ad cap, v = .slice ad len cap ∧ cap = c.getD (Γ.κ b - i) ∧ (cap ≠ 0 → ad = some ⟨Γ.ν b, i * s, none⟩) ∧ len ≤ cap := by
  simp only [Ra, Rp, List.cons.injEq, and_true]

theorem addr_add {b off n : Nat} : (⟨b, off, none⟩ : Addr).add n = ⟨b, off + n, none⟩ := by
  unfold Addr.add; split
  · rename_i h; subst h; rfl
  · rfl

theorem fieldPlace_run {b off : Nat} {f : Field} {i : TypeInfo} (hi : P.info? f.type = some i) (h0 : 0 < i.size) : (fieldPlace ⟨b, off, none⟩ f).run P w = .ok ⟨b, off + f.offset, none⟩ w := by
  unfold fieldPlace
  simp [sizeOf, typeInfo, hi, Nat.ne_of_gt h0, addr_add]

theorem does_nilc (em : Emb Γ S a w) (sp : Spec) (base : Nat) {tx : Option Ty} {x : Operand} {x' : Od} (hx : cOd tx x = some x')
    {o : Oper} (ho : o.op = .nilCheck x) (hob : allP (aeff sp base S.T S.H (.nilc x')).ob) : Does P Γ S.H w (aeff sp base S.T S.H (.nilc x')) ((execOp a.eval o).run P w) := by
  have r1 := cOd_sound em hx
  rw [aeff] at hob ⊢
  obtain ⟨p, hob⟩ := p1_ob hob
  have r1 := peel_sound r1 p
  revert hob
  show allP (Ef.ob (match (peel (ev S.T x')).2 with | .val (.optr e) o => _ | .val (.ptr e) y => _ | .ref b s i o => _ | .fn f c => _ | _ => _)) → Does P Γ S.H w (match (peel (ev S.T x')).2 with | .val (.optr e) o => _ | .val (.ptr e) y => _ | .ref b s i o => _ | .fn f c => _ | _ => _) _
  generalize (peel (ev S.T x')).2 = X at r1
  intro hob
  cases X with
  | val t y =>
    cases t with
    | optr e =>
      have h1 := allP_one.1 hob
      cases y with
      | none => cases h1
      | some z =>
        obtain ⟨cs, hc, hv⟩ := Ra_val.1 r1
        simp only [RepC] at hc
        rcases hc with ⟨hc, _⟩ | ⟨z', hz, b, off, c, rfl, g1, g2, g3⟩
        · cases hc
        · cases hz
          refine Does.val em.heap (v := .pointer (some ⟨b, off, none⟩)) ?_ rfl (Ra_val.2 (RepV_ptr.2 ⟨b, off, c, rfl, g1, g2, g3⟩))
          simp [execOp, ho, hv, mkV, isAgg]
    | ptr e =>
      obtain ⟨b, off, c, hv, _⟩ := RepV_ptr.1 (Ra_val.1 r1)
      exact Does.val em.heap (v := a.eval x) (by simp [execOp, ho, hv]) rfl r1
    | _ => exact fail_elim hob
  | ref b s i o' =>
    obtain ⟨h1, hv⟩ := Ra_ref.1 r1
    exact Does.val em.heap (v := a.eval x) (by simp [execOp, ho, hv]) rfl r1
  | fn f c =>
    have := r1
    simp only [Ra, Rp, List.cons.injEq, and_true] at this
    obtain ⟨us, hv, _⟩ := this
    exact Does.val em.heap (v := a.eval x) (by simp [execOp, ho, hv]) rfl r1
  | _ => exact fail_elim hob

theorem does_fld (em : Emb Γ S a w) (sp : Spec) (base : Nat) {tx : Option Ty} {x : Operand} {x' : Od} (hx : cOd tx x = some x') {off : Nat} {te : Ty}
    {o : Oper} (ho : ∀ b q, a.eval x = .pointer (some ⟨b, q, none⟩) → (execOp a.eval o).run P w = .ok (.value (.pointer (some ⟨b, q + off, none⟩))) w)
    (hob : allP (aeff sp base S.T S.H (.fld off te x')).ob) : Does P Γ S.H w (aeff sp base S.T S.H (.fld off te x')) ((execOp a.eval o).run P w) := by
  have r1 := cOd_sound em hx
  rw [aeff] at hob ⊢
  obtain ⟨p, hob⟩ := p1_ob hob
  have r1 := peel_sound r1 p
  revert hob
  show allP (Ef.ob (match (peel (ev S.T x')).2 with | .val (.ptr t) y => _ | .ref b s i o => _ | _ => _)) → Does P Γ S.H w (match (peel (ev S.T x')).2 with | .val (.ptr t) y => _ | .ref b s i o => _ | _ => _) _
  generalize (peel (ev S.T x')).2 = X at r1
  intro hob
  cases X with
  | val t y =>
    cases t with
    | ptr t =>
      simp only at hob ⊢
      cases hs : sub t off te y with
      | none => rw [hs] at hob; exact fail_elim hob
      | some z =>
        obtain ⟨b, q, c, hv, g1, g2, g3⟩ := RepV_ptr.1 (Ra_val.1 r1)
        obtain ⟨k1, _⟩ := sub_sound t off y z c hs g2
        exact Does.val em.heap (ho b q hv) rfl (Ra_val.2 (RepV_ptr.2 ⟨b, q + off, _, rfl, g1, k1, g3.part off (sz te)⟩))
    | _ => exact fail_elim hob
  | ref b s i o' =>
    obtain ⟨h1, hv⟩ := Ra_ref.1 r1
    simp only at hob ⊢
    split
    · rename_i hs
      subst hs
      exact Does.val em.heap (ho _ _ hv) rfl (Ra_ref.2 ⟨h1, by simp only [Nat.mul_one]; congr 3; omega⟩)
    · exact Does.val em.heap (ho _ _ hv) rfl (Ra_ref.2 ⟨h1, by simp only [Nat.add_assoc]⟩)
  | _ => exact fail_elim hob

theorem extract_list {cs : Array Value} {i n : Nat} : (cs.extract i (i + n)).toList = (cs.toList.drop i).take n := by
  simp [List.take_drop, Nat.add_comm]

/-- A part of an aggregate. -/
theorem part_sound {e : TypeId} {te : Ty} (ht : tyS P e = some te) {cs : Array Value} {off : Nat} {x : Den te} {I : Nat → Prop} (hc : RepC w I te x ((cs.toList.drop off).take (sz te))) :
    (part e cs off).run P w = .ok (mkV te ((cs.toList.drop off).take (sz te))) w := by
  obtain ⟨i, d, hi, hu, hs, ha⟩ := tyS_spec ht
  have hlen := RepC.length _ _ _ hc
  unfold part mkV
  by_cases hagg : isAgg te = true
  · rw [hagg] at ha
    have hd : (Go.isAgg e).run P w = .ok true w := by
      unfold Go.isAgg
      simp only [Sem.run_bind, run_underlying hu, Result.andThen_ok]
      cases d <;> simp [aggD] at ha <;> rfl
    simp only [Sem.run_bind, hd, Result.andThen_ok, if_true, hagg, sizeOf, typeInfo, run_program, hi, Sem.run_pure, hs]
    congr 1
    rw [← extract_list]
  · have hagg' : isAgg te = false := by simpa using hagg
    rw [hagg'] at ha
    have hd : (Go.isAgg e).run P w = .ok false w := by
      unfold Go.isAgg
      simp only [Sem.run_bind, run_underlying hu, Result.andThen_ok]
      cases d <;> simp [aggD] at ha <;> rfl
    have h1 : sz te = 1 := by cases te <;> simp [isAgg] at hagg' <;> rfl
    rw [h1] at hlen ⊢
    simp only [Sem.run_bind, hd, Result.andThen_ok, hagg', if_false, Bool.false_eq_true]
    cases hq : cs.toList.drop off with
    | nil => rw [hq] at hlen; simp at hlen
    | cons v l =>
      have hv : cs[off]? = some v := by
        have := congrArg (fun l => l[0]?) hq
        simpa using this
      rw [hv]
      rfl

theorem does_fldv (em : Emb Γ S a w) (sp : Spec) (base : Nat) {tx : Option Ty} {x : Operand} {x' : Od} (hx : cOd tx x = some x') {off : Nat} {e : TypeId} {te : Ty} (ht : tyS P e = some te)
    {o : Oper} (ho : ∀ cs, a.eval x = .agg cs → (execOp a.eval o).run P w = ((part e cs off).run P w).andThen fun v w' => .ok (.value v) w')
    (hob : allP (aeff sp base S.T S.H (.fldv off te x')).ob) : Does P Γ S.H w (aeff sp base S.T S.H (.fldv off te x')) ((execOp a.eval o).run P w) := by
  have r1 := cOd_sound em hx
  rw [aeff] at hob ⊢
  obtain ⟨p, hob⟩ := p1_ob hob
  have r1 := peel_sound r1 p
  revert hob
  show allP (Ef.ob (match (peel (ev S.T x')).2 with | .val t y => _ | _ => _)) → Does P Γ S.H w (match (peel (ev S.T x')).2 with | .val t y => _ | _ => _) _
  generalize (peel (ev S.T x')).2 = X at r1
  intro hob
  cases X with
  | val t y =>
    simp only at hob ⊢
    cases hag : isAgg t with
    | false => rw [hag] at hob; exact fail_elim hob
    | true =>
      rw [hag] at hob
      simp only [if_true] at hob ⊢
      cases hs : sub t off te y with
      | none => rw [hs] at hob; exact fail_elim hob
      | some z =>
        obtain ⟨cs, hc, hv⟩ := Ra_val.1 r1
        simp only [mkV, hag, if_true] at hv
        obtain ⟨k1, _⟩ := sub_sound t off y z cs hs hc
        refine Does.val em.heap (v := mkV te ((cs.drop off).take (sz te))) ?_ rfl (Ra_val.2 ⟨_, k1, rfl⟩)
        rw [ho _ hv, part_sound ht (by simpa using k1)]
        rfl
  | _ => exact fail_elim hob

theorem inRange {n : Int} {len : Nat} (h : 0 ≤ n ∧ n < (len : Int)) : n.toNat < len := by omega

theorem indexAt_slice {t e : TypeId} (hu : P.underlying t = some (.slice e)) {i : TypeInfo} (hi : P.info? e = some i) {b off len cap : Nat} {k : IntKind} {n : Int} (h : 0 ≤ n ∧ n < (len : Int)) :
    (Instr.indexAt t (.slice (some ⟨b, off, none⟩) len cap) (.int k n)).run P w = .ok (.pointer (some ⟨b, off + n.toNat * i.size, none⟩)) w := by
  simp [Instr.indexAt, asIntOf, run_underlying hu, h.1, h.2, sizeOf, typeInfo, hi, addr_add]

theorem indexAt_array {t e : TypeId} {l : Nat} (hu : P.underlying t = some (.array l e)) {i : TypeInfo} (hi : P.info? e = some i) {b off : Nat} {k : IntKind} {n : Int} (h : 0 ≤ n ∧ n < (l : Int)) :
    (Instr.indexAt t (.pointer (some ⟨b, off, none⟩)) (.int k n)).run P w = .ok (.pointer (some ⟨b, off + n.toNat * i.size, none⟩)) w := by
  simp [Instr.indexAt, asIntOf, run_underlying hu, h.1, h.2, sizeOf, typeInfo, hi, addr_add, Instr.sureAddr]

theorem does_ixs (em : Emb Γ S a w) (sp : Spec) (base : Nat) {tx ti : Option Ty} {x i : Operand} {x' i' : Od} (hx : cOd tx x = some x') (hi : cOd ti i = some i') {t e : TypeId} {te : Ty}
    (hu : P.underlying t = some (.slice e)) (ht : tyS P e = some te)
    {o : Oper} (ho : o.op = .indexAddr t x i)
    (hob : allP (aeff sp base S.T S.H (.ixs te x' i')).ob) : Does P Γ S.H w (aeff sp base S.T S.H (.ixs te x' i')) ((execOp a.eval o).run P w) := by
  have r1 := cOd_sound em hx
  have r2 := cOd_sound em hi
  obtain ⟨inf, d, hinf, _, hs, _⟩ := tyS_spec ht
  rw [aeff] at hob ⊢
  obtain ⟨p, hob⟩ := p1_ob hob
  have r2 := peel_sound r2 p
  revert hob
  show allP (Ef.ob (match asInt (peel (ev S.T i')).2 with | some (_, n) => _ | none => _)) → Does P Γ S.H w (match asInt (peel (ev S.T i')).2 with | some (_, n) => _ | none => _) _
  cases h1 : asInt (peel (ev S.T i')).2 with
  | none => exact fun hob => fail_elim hob
  | some u =>
    obtain ⟨k, n⟩ := u
    have e2 := asInt_sound h1 r2
    intro hob
    obtain ⟨q, hob⟩ := p1_ob hob
    have r1 := peel_sound r1 q
    revert hob
    show allP (Ef.ob (match asList te (peel (ev S.T x')).2 with | some ys => _ | none => _)) → Does P Γ S.H w (match asList te (peel (ev S.T x')).2 with | some ys => _ | none => _) _
    generalize (peel (ev S.T x')).2 = X at r1
    cases h2 : asList te X with
    | some ys =>
      intro hob
      have hb := allP_one.1 hob
      obtain ⟨ad, cap, hv, hcap, had, hat⟩ := asList_sound h2 r1
      have hlt := inRange hb
      obtain ⟨b, off, cs, rfl, g1, g2, g3⟩ := hat n.toNat ys[n.toNat] (List.getElem?_eq_getElem hlt)
      refine Does.val em.heap (v := .pointer (some ⟨b, off + n.toNat * sz te, none⟩)) ?_ rfl (Ra_val.2 (RepV_ptr.2 ⟨b, _, cs, rfl, g1, ?_, g3⟩))
      · simp only [execOp, ho, hv, e2, Sem.run_bind]
        rw [indexAt_slice hu hinf hb, hs]
        rfl
      · rw [List.getD_eq_getElem?_getD, List.getElem?_eq_getElem hlt]; exact g2
    | none =>
      intro hob
      cases X with
      | sl b s j len c =>
        simp only at hob ⊢
        split at hob
        · rename_i hsz
          rw [if_pos hsz]
          have hb := allP_one.1 hob
          obtain ⟨h3, ad, cap, hv, hcap, hoff, hle⟩ := Ra_sl.1 r1
          have : cap ≠ 0 := by have := inRange hb; omega
          have had := hoff this
          subst had
          refine Does.val em.heap (v := .pointer (some ⟨Γ.ν b, j * s + n.toNat * sz te, none⟩)) ?_ rfl (Ra_ref.2 ⟨h3, ?_⟩)
          · simp only [execOp, ho, hv, e2, Sem.run_bind]
            rw [indexAt_slice hu hinf hb, hs]
            rfl
          · rw [← hsz, Nat.add_mul]; rfl
        · exact fail_elim hob
      | _ => exact fail_elim hob

theorem does_ixa (em : Emb Γ S a w) (sp : Spec) (base : Nat) {tx ti : Option Ty} {x i : Operand} {x' i' : Od} (hx : cOd tx x = some x') (hi : cOd ti i = some i') {t e : TypeId} {te : Ty} {l : Nat}
    (hu : P.underlying t = some (.array l e)) (ht : tyS P e = some te)
    {o : Oper} (ho : o.op = .indexAddr t x i)
    (hob : allP (aeff sp base S.T S.H (.ixa l te x' i')).ob) : Does P Γ S.H w (aeff sp base S.T S.H (.ixa l te x' i')) ((execOp a.eval o).run P w) := by
  have r1 := cOd_sound em hx
  have r2 := cOd_sound em hi
  obtain ⟨inf, d, hinf, _, hs, _⟩ := tyS_spec ht
  rw [aeff] at hob ⊢
  obtain ⟨p, hob⟩ := p1_ob hob
  have r2 := peel_sound r2 p
  revert hob
  show allP (Ef.ob (match asInt (peel (ev S.T i')).2 with | some (_, n) => _ | none => _)) → Does P Γ S.H w (match asInt (peel (ev S.T i')).2 with | some (_, n) => _ | none => _) _
  cases h1 : asInt (peel (ev S.T i')).2 with
  | none => exact fun hob => fail_elim hob
  | some u =>
    obtain ⟨k, n⟩ := u
    have e2 := asInt_sound h1 r2
    intro hob
    obtain ⟨q, hob⟩ := p1_ob hob
    have r1 := peel_sound r1 q
    revert hob
    show allP (Ef.ob (match (peel (ev S.T x')).2 with | .val (.ptr t) y => _ | .ref b s i0 o => _ | _ => _)) → Does P Γ S.H w (match (peel (ev S.T x')).2 with | .val (.ptr t) y => _ | .ref b s i0 o => _ | _ => _) _
    generalize (peel (ev S.T x')).2 = X at r1
    intro hob
    cases X with
    | val T y =>
      cases T with
      | ptr T =>
        simp only at hob ⊢
        cases hc : castD T (arrT l te) y with
        | none => rw [hc] at hob; exact fail_elim hob
        | some z =>
          rw [hc] at hob
          simp only at hob ⊢
          obtain ⟨rfl, rfl⟩ := castD_eq hc
          have hb := allP_one.1 hob
          obtain ⟨b, off, c, hv, g1, g2, g3⟩ := RepV_ptr.1 (Ra_val.1 r1)
          obtain ⟨k1, _⟩ := arrGet_sound l _ n.toNat c g2 (inRange hb)
          refine Does.val em.heap (v := .pointer (some ⟨b, off + n.toNat * sz te, none⟩)) ?_ rfl (Ra_val.2 (RepV_ptr.2 ⟨b, _, _, rfl, g1, k1, g3.part _ (sz te)⟩))
          simp only [execOp, ho, hv, e2, Sem.run_bind]
          rw [indexAt_array hu hinf hb, hs]
          rfl
      | _ => exact fail_elim hob
    | ref b s i0 o' =>
      obtain ⟨h3, hv⟩ := Ra_ref.1 r1
      have hrun : ∀ hb : 0 ≤ n ∧ n < (l : Int), (execOp a.eval o).run P w = .ok (.value (.pointer (some ⟨Γ.ν b, i0 * s + o' + n.toNat * sz te, none⟩))) w := fun hb => by
        simp only [execOp, ho, hv, e2, Sem.run_bind]
        rw [indexAt_array hu hinf hb, hs]
        rfl
      simp only at hob ⊢
      split
      · rename_i h
        rw [if_pos h] at hob
        subst h
        exact Does.val em.heap (hrun (allP_one.1 hob)) rfl (Ra_ref.2 ⟨h3, by congr 3; omega⟩)
      · rename_i h
        rw [if_neg h] at hob
        exact Does.val em.heap (hrun (allP_one.1 hob)) rfl (Ra_ref.2 ⟨h3, by congr 3; omega⟩)
    | _ => exact fail_elim hob

theorem does_ixv (em : Emb Γ S a w) (sp : Spec) (base : Nat) {tx ti : Option Ty} {x i : Operand} {x' i' : Od} (hx : cOd tx x = some x') (hi : cOd ti i = some i') {t e : TypeId} {te : Ty} {l : Nat}
    (hu : P.underlying t = some (.array l e)) (ht : tyS P e = some te)
    {o : Oper} (ho : o.op = .index t x i)
    (hob : allP (aeff sp base S.T S.H (.ixv l te x' i')).ob) : Does P Γ S.H w (aeff sp base S.T S.H (.ixv l te x' i')) ((execOp a.eval o).run P w) := by
  have r1 := cOd_sound em hx
  have r2 := cOd_sound em hi
  obtain ⟨inf, d, hinf, _, hs, _⟩ := tyS_spec ht
  rw [aeff] at hob ⊢
  obtain ⟨p, hob⟩ := p1_ob hob
  have r2 := peel_sound r2 p
  revert hob
  show allP (Ef.ob (match asInt (peel (ev S.T i')).2 with | some (_, n) => _ | none => _)) → Does P Γ S.H w (match asInt (peel (ev S.T i')).2 with | some (_, n) => _ | none => _) _
  cases h1 : asInt (peel (ev S.T i')).2 with
  | none => exact fun hob => fail_elim hob
  | some u =>
    obtain ⟨k, n⟩ := u
    have e2 := asInt_sound h1 r2
    intro hob
    obtain ⟨q, hob⟩ := p1_ob hob
    have r1 := peel_sound r1 q
    revert hob
    dsimp only [p1]
    cases h2 : asD (arrT l te) (peel (ev S.T x')).2 with
    | none => exact fun hob => fail_elim hob
    | some z =>
      intro hob
      have hb := allP_one.1 hob
      obtain ⟨cs, hc, hv⟩ := asD_sound h2 r1
      have hag : isAgg (arrT l te) = true := by cases l <;> rfl
      simp only [mkV, hag, if_true] at hv
      obtain ⟨k1, _⟩ := arrGet_sound l z n.toNat cs hc (inRange hb)
      refine Does.val em.heap (v := mkV te ((cs.drop (n.toNat * sz te)).take (sz te))) ?_ rfl (Ra_val.2 ⟨_, k1, rfl⟩)
      have hp := part_sound (P := P) ht (cs := cs.toArray) (off := n.toNat * sz te) (by simpa using k1)
      simp only [execOp, ho, hv, e2, Sem.run_bind]
      have : (Instr.index t (.agg cs.toArray) (.int k n)).run P w = (part e cs.toArray (n.toNat * sz te)).run P w := by
        simp [Instr.index, asIntOf, run_underlying hu, hb.1, hb.2, sizeOf, typeInfo, hinf, hs]
      rw [this, hp]
      simp

theorem does_ext (em : Emb Γ S a w) (sp : Spec) (base : Nat) {tx : Option Ty} {x : Operand} {x' : Od} (hx : cOd tx x = some x') {i : Nat}
    {o : Oper} (ho : o.op = .extract x i)
    (hob : allP (aeff sp base S.T S.H (.ext x' i)).ob) : Does P Γ S.H w (aeff sp base S.T S.H (.ext x' i)) ((execOp a.eval o).run P w) := by
  have r1 := cOd_sound em hx
  rw [aeff] at hob ⊢
  obtain ⟨p, hob⟩ := p1_ob hob
  have r1 := peel_sound r1 p
  revert hob
  show allP (Ef.ob (match (peel (ev S.T x')).2 with | .tup l => _ | _ => _)) → Does P Γ S.H w (match (peel (ev S.T x')).2 with | .tup l => _ | _ => _) _
  generalize (peel (ev S.T x')).2 = X at r1
  intro hob
  cases X with
  | tup l =>
    simp only at hob ⊢
    cases hl : (ofAV l)[i]? with
    | none => rw [hl] at hob; exact fail_elim hob
    | some y =>
      simp only [Ra, Rp, List.cons.injEq, and_true] at r1
      obtain ⟨us, hv, hr⟩ := r1
      obtain ⟨v, hv2, hr2⟩ := ofAV_sound hr i y hl
      refine Does.val em.heap (v := v) ?_ rfl hr2
      simp [execOp, ho, hv, Instr.extract, hv2]
  | _ => exact fail_elim hob

theorem does_len (em : Emb Γ S a w) (sp : Spec) (base : Nat) {tx : Option Ty} {x : Operand} {x' : Od} (hx : cOd tx x = some x') {t e : TypeId} (hu : P.underlying t = some (.slice e))
    {o : Oper} (ho : (execOp a.eval o).run P w = ((Builtin.len_ #[t] o.type #[a.eval x]).run P w).andThen fun v w' => .ok (.value v) w')
    (hob : allP (aeff sp base S.T S.H (.len x')).ob) : Does P Γ S.H w (aeff sp base S.T S.H (.len x')) ((execOp a.eval o).run P w) := by
  have r1 := cOd_sound em hx
  rw [aeff] at hob ⊢
  obtain ⟨p, hob⟩ := p1_ob hob
  have r1 := peel_sound r1 p
  have hrun : ∀ ad n c, a.eval x = .slice ad n c → (execOp a.eval o).run P w = .ok (.value (.int .i64 n)) w := fun ad n c hv => by
    rw [ho, hv]
    simp [Builtin.len_, run_underlying hu, goInt]
  revert hob
  show allP (Ef.ob (match (peel (ev S.T x')).2 with | .val (.slice e) xs => _ | .vsl _ xs _ => _ | .sl _ _ _ len _ => _ | _ => _)) → Does P Γ S.H w (match (peel (ev S.T x')).2 with | .val (.slice e) xs => _ | .vsl _ xs _ => _ | .sl _ _ _ len _ => _ | _ => _) _
  generalize (peel (ev S.T x')).2 = X at r1
  intro hob
  cases X with
  | val T y =>
    cases T with
    | slice T =>
      obtain ⟨ad, cap, hv, _⟩ := RepV_slice.1 (Ra_val.1 r1)
      exact Does.val em.heap (hrun _ _ _ hv) rfl (Ra_int.2 rfl)
    | _ => exact fail_elim hob
  | vsl T xs c =>
    obtain ⟨ad, hv, _⟩ := Ra_vsl.1 r1
    exact Does.val em.heap (hrun _ _ _ hv) rfl (Ra_int.2 rfl)
  | sl b s i len c =>
    obtain ⟨_, off, cap, hv, _⟩ := Ra_sl.1 r1
    exact Does.val em.heap (hrun _ _ _ hv) rfl (Ra_int.2 rfl)
  | _ => exact fail_elim hob

end
end Go.Ab
