/- Soundness, thirteenth part: aggregates built, values compared. -/
import Derived.Test.YtffapeomfjfedaaAb15
import Derived.Laws.Tables
set_option linter.unusedVariables false
set_option linter.unusedSimpArgs false
namespace Go.Ab

section
variable {P : Program} {Γ : Cx} {H : List Hs} {w : World} {S : St} {a : Act}

def PartsOk (w : World) (Γ : Cx) (T : List AV) (a : Act) (place : Nat → Option (Nat × Nat)) : List (Nat × Operand) → List (Nat × Ty × Od) → Prop
  | [], [] => True
  | (i, x) :: ps, (off, te, od) :: l => place i = some (off, sz te) ∧ Ra w Γ (ev T od) (a.eval x) ∧ PartsOk w Γ T a place ps l
  | _, _ => False

theorem oneCell_rowSet {c : Array Value} {off : Nat} {L : List Value} (h1 : ∀ u ∈ c.toList, u.oneCell' = true) (h2 : ∀ u ∈ L, u.oneCell' = true) : ∀ u ∈ (rowSet c off L).toList, u.oneCell' = true := by
  intro u hu
  simp only [rowSet, List.mem_append] at hu
  rcases hu with (hu | hu) | hu
  · exact h1 u (List.mem_of_mem_take hu)
  · exact h2 u hu
  · exact h1 u (List.mem_of_mem_drop hu)

theorem fill_build {T : List AV} {place : Nat → Option (Nat × Nat)} : ∀ {ps : List (Nat × Operand)} {l : List (Nat × Ty × Od)} {z cs : List AV} {cells : Array Value}, PartsOk w Γ T a place ps l → Fa w Γ z cells.toList →
    (∀ u ∈ cells.toList, u.oneCell' = true) → buildCells T z l = some cs →
    ∃ cells', Instr.fill place cells (ps.map fun p => (p.1, a.eval p.2)) = some cells' ∧ Fa w Γ cs cells'.toList ∧ (∀ u ∈ cells'.toList, u.oneCell' = true)
  | [], [], z, cs, cells, _, hf, h1, hb => by
    simp only [buildCells, Option.some.injEq] at hb
    subst hb
    exact ⟨cells, rfl, hf, h1⟩
  | (i, x) :: ps, (off, te, od) :: l, z, cs, cells, hp, hf, h1, hb => by
    obtain ⟨p1, p2, p3⟩ := hp
    simp only [buildCells] at hb
    split at hb
    · rename_i cs1 hc
      split at hb
      · rename_i hfit
        obtain ⟨c1, c2, c3⟩ := cellsOf_sound hc p2
        have hl := hf.length
        have hl2 := c1.length
        simp only [Array.length_toList] at hl hl2
        obtain ⟨cells', q1, q2, q3⟩ := fill_build p3 (hf.setMany c1 (by omega)) (oneCell_rowSet h1 c3) hb
        refine ⟨cells', ?_, q2, q3⟩
        simp only [List.map_cons, Instr.fill, p1]
        rw [if_neg (by simp; omega), foldl_set0 (by omega)]
        exact q1
      · cases hb
    · cases hb
  | [], _ :: _, _, _, _, h, _, _, _ => h.elim
  | _ :: _, [], _, _, _, h, _, _, _ => h.elim

theorem cParts_ok (em : Emb Γ S a w) {fs : Array Field} {pl : Array (Nat × Nat)} : ∀ {ps : List (Nat × Operand)} {l : List (Nat × Ty × Od)}, cParts P fs pl ps = some l → PartsOk w Γ S.T a (pl[·]?) ps l
  | [], l, h => by simp only [cParts, Option.some.injEq] at h; subst h; trivial
  | (i, x) :: ps, l, h => by
    simp only [cParts] at h
    split at h
    · rename_i f off n h1 h2
      split at h
      · rename_i te l' h3 h4
        split at h
        · rename_i od h5
          split at h
          · rename_i hn
            cases h
            exact ⟨by show pl[i]? = _; rw [h2, hn], cOd_sound em h5, cParts_ok em h4⟩
          · cases h
        · cases h
      · cases h
    · cases h

theorem cPartsA_ok (em : Emb Γ S a w) {te : Ty} : ∀ {ps : List (Nat × Operand)} {l : List (Nat × Ty × Od)}, cPartsA te ps = some l → PartsOk w Γ S.T a (fun i => some (i * sz te, sz te)) ps l
  | [], l, h => by simp only [cPartsA, Option.some.injEq] at h; subst h; trivial
  | (i, x) :: ps, l, h => by
    simp only [cPartsA] at h
    split at h
    · rename_i od l' h1 h2
      cases h
      exact ⟨rfl, cOd_sound em h1, cPartsA_ok em h2⟩
    · cases h

theorem does_build' (em : Emb Γ S a w) (sp : Spec) (base : Nat) {t : TypeId} {ty : Ty} {z : Value} {place : Nat → Option (Nat × Nat)} {ps : Array (Nat × Operand)} {l : List (Nat × Ty × Od)}
    (hp : PartsOk w Γ S.T a place ps.toList l) (hsz : z.cells.size = sz ty) (hag : isAgg ty = true) (h1 : z.cells.toList.all Value.oneCell' = true)
    (hrun : ∀ cells, Instr.fill place z.cells (ps.toList.map fun p => (p.1, a.eval p.2)) = some cells → P.built t (ps.toList.map fun p => (p.1, a.eval p.2)) = some cells)
    {o : Oper} (ho : o.op = .build t ps)
    (hob : allP (aeff sp base S.T S.H (.build ty (zeroA ty z.cells.toList) l)).ob) : Does P Γ S.H w (aeff sp base S.T S.H (.build ty (zeroA ty z.cells.toList) l)) ((execOp a.eval o).run P w) := by
  rw [aeff] at hob ⊢
  cases hb : buildCells S.T (zeroA ty z.cells.toList) l with
  | none => rw [hb] at hob; exact fail_elim hob
  | some cs =>
    rw [hb] at hob
    simp only at hob ⊢
    obtain ⟨cells, q1, q2, q3⟩ := fill_build hp (zeroA_sound ty _ (by simpa using hsz)) (List.all_eq_true.1 h1) hb
    have hr : (execOp a.eval o).run P w = .ok (.value (.agg cells)) w := by
      have hm : (ps.map fun (p : Nat × Operand) => (p.1, a.eval p.2)).toList = ps.toList.map fun p => (p.1, a.eval p.2) := by simp
      have := run_build (P := P) w t (ps.map fun (p : Nat × Operand) => (p.1, a.eval p.2)) cells (by rw [hm]; exact hrun cells q1)
      simp [execOp, ho, this]
    cases hof : ofCells ty cs with
    | some x =>
      simp only
      exact Does.val em.heap hr rfl (Ra_val.2 ⟨_, ofCells_sound ty cs _ x hof q2, by simp [mkV, hag]⟩)
    | none =>
      rw [hof] at hob
      simp only at hob ⊢
      split at hob
      · rename_i hh
        rw [if_pos hh]
        refine Does.val em.heap hr rfl ?_
        simp only [Ef.ok, Ra, Rp, List.cons.injEq, and_true]
        exact ⟨cells.toList, rfl, Rp_toAV.2 q2, q3⟩
      · exact fail_elim hob

theorem does_buildS (em : Emb Γ S a w) (sp : Spec) (base : Nat) {t : TypeId} {ty : Ty} {z : Value} {inf : TypeInfo} {fs : Array Field} {pl : List (Nat × Nat)} {ps : Array (Nat × Operand)} {l : List (Nat × Ty × Od)}
    (hi : P.info? t = some inf) (hu : P.underlying t = some (.struct fs)) (hz : inf.zero = some z) (hpl : fs.toList.mapM (fun f => (P.info? f.type).map fun i => (f.offset, i.size)) = some pl)
    (hp : cParts P fs pl.toArray ps.toList = some l) (hsz : z.cells.size = sz ty) (hag : isAgg ty = true) (h1 : z.cells.toList.all Value.oneCell' = true)
    {o : Oper} (ho : o.op = .build t ps)
    (hob : allP (aeff sp base S.T S.H (.build ty (zeroA ty z.cells.toList) l)).ob) : Does P Γ S.H w (aeff sp base S.T S.H (.build ty (zeroA ty z.cells.toList) l)) ((execOp a.eval o).run P w) :=
  does_build' em sp base (cParts_ok em hp) hsz hag h1 (fun cells hc => by simp only [Program.built, hi, hu, hz, hpl]; exact hc) ho hob

theorem does_buildA (em : Emb Γ S a w) (sp : Spec) (base : Nat) {t e : TypeId} {n : Nat} {ty te : Ty} {z : Value} {inf : TypeInfo} {ps : Array (Nat × Operand)} {l : List (Nat × Ty × Od)}
    (hi : P.info? t = some inf) (hu : P.underlying t = some (.array n e)) (hz : inf.zero = some z) (hte : tyS P e = some te)
    (hp : cPartsA te ps.toList = some l) (hsz : z.cells.size = sz ty) (hag : isAgg ty = true) (h1 : z.cells.toList.all Value.oneCell' = true)
    {o : Oper} (ho : o.op = .build t ps)
    (hob : allP (aeff sp base S.T S.H (.build ty (zeroA ty z.cells.toList) l)).ob) : Does P Γ S.H w (aeff sp base S.T S.H (.build ty (zeroA ty z.cells.toList) l)) ((execOp a.eval o).run P w) := by
  obtain ⟨ie, d, hie, _, hs, _⟩ := tyS_spec hte
  exact does_build' em sp base (cPartsA_ok em hp) hsz hag h1 (fun cells hc => by simp only [Program.built, hi, hu, hz, hie, hs]; exact hc) ho hob

/-! ### Comparing -/

theorem deq_arr {te : Ty} {n : Nat} {x y : Den (arrT (n + 1) te)} : deq (arrT (n + 1) te) x y = (deq te x.1 y.1 && deq (arrT n te) x.2 y.2) := rfl

theorem cellsOf_info {e : TypeId} {i : TypeInfo} (h : P.info? e = some i) : P.cellsOf e = i.size := by simp [Program.cellsOf, h]

theorem eqItems_sound {e : TypeId} {te : Ty} {i : TypeInfo} {d : Nat} {I : Nat → Prop} (hi : P.info? e = some i) (hs : i.size = sz te) (ht : tyS P e = some te)
    (IH : ∀ (x y : Den te) (cs ds : List Value), RepC w I te x cs → RepC w I te y ds → (Op.equalIn d e (mkV te cs) (mkV te ds)).run P w = .ok (deq te x y) w) {xs ys : Array Value} :
    ∀ (m k : Nat) (x y : Den (arrT m te)), RepC w I (arrT m te) x (xs.toList.drop (k * sz te)) → RepC w I (arrT m te) y (ys.toList.drop (k * sz te)) →
      (Op.eqItems d e (P.cellsOf e) xs ys (List.range' k m)).run P w = .ok (deq (arrT m te) x y) w
  | 0, k, x, y, _, _ => by simp [Op.eqItems, arrT, deq]
  | m + 1, k, x, y, hx, hy => by
    simp only [arrT, RepC] at hx hy
    obtain ⟨x1, x2, e1, hx1, hx2⟩ := hx
    obtain ⟨y1, y2, e2, hy1, hy2⟩ := hy
    have lx := RepC.length _ _ _ hx1
    have ly := RepC.length _ _ _ hy1
    have tx : (xs.toList.drop (k * sz te)).take (sz te) = x1 := by rw [e1, ← lx]; simp
    have ty : (ys.toList.drop (k * sz te)).take (sz te) = y1 := by rw [e2, ← ly]; simp
    have dx : xs.toList.drop ((k + 1) * sz te) = x2 := by rw [Nat.succ_mul, ← List.drop_drop, e1, ← lx]; simp
    have dy : ys.toList.drop ((k + 1) * sz te) = y2 := by rw [Nat.succ_mul, ← List.drop_drop, e2, ← ly]; simp
    have px := part_sound (w := w) ht (cs := xs) (off := k * sz te) (by rw [tx]; exact hx1)
    have py := part_sound (w := w) ht (cs := ys) (off := k * sz te) (by rw [ty]; exact hy1)
    rw [tx] at px
    rw [ty] at py
    rw [List.range'_succ, cellsOf_info hi, hs]
    have ih := eqItems_sound hi hs ht IH m (k + 1) x.2 y.2 (by rw [dx]; exact hx2) (by rw [dy]; exact hy2)
    rw [cellsOf_info hi, hs] at ih
    have h0 := IH x.1 y.1 x1 y1 hx1 hy1
    simp only [Op.eqItems, Sem.run_bind, px, py, Result.andThen_ok, h0]
    show (if (!deq te x.1 y.1) = true then pure false else Op.eqItems d e (sz te) xs ys (List.range' (k + 1) m)).run P w = .ok (deq te x.1 y.1 && deq (arrT m te) x.2 y.2) w
    cases deq te x.1 y.1
    · rfl
    · simpa using ih

theorem equalIn_sound {I : Nat → Prop} : ∀ (n d : Nat) (t : TypeId) (ty : Ty) (x y : Den ty) (cs ds : List Value), n ≤ d → eqT P n t ty = true → isAgg ty = (match P.underlying t with | some d => aggD d | none => false) → RepC w I ty x cs → RepC w I ty y ds →
    (Op.equalIn d t (mkV ty cs) (mkV ty ds)).run P w = .ok (deq ty x y) w
  | 0, _, _, _, _, _, _, _, _, h, _, _, _ => by simp [eqT] at h
  | n + 1, 0, _, _, _, _, _, _, h, _, _, _, _ => by omega
  | n + 1, d + 1, t, ty, x, y, cs, ds, hd, h, hag, hx, hy => by
    cases hu : P.underlying t with
    | none => simp [eqT, hu] at h
    | some d0 =>
      simp only [eqT, hu] at h
      rw [hu] at hag
      cases d0 with
      | int k =>
        cases ty with
        | int k' =>
          simp only [beq_iff_eq] at h
          subst h
          simp only [RepC] at hx hy
          subst hx
          subst hy
          simp [Op.equalIn, run_underlying hu, mkV, isAgg, deq, ieq]
        | _ => cases h
      | bool =>
        cases ty with
        | bool =>
          simp only [RepC] at hx hy
          subst hx
          subst hy
          simp [Op.equalIn, run_underlying hu, mkV, isAgg, deq, beqB]
        | _ => cases h
      | array l e =>
        simp only at h
        split at h
        · rename_i te ie de h1 h2 h3
          simp only [Bool.and_eq_true, decide_eq_true_eq, beq_iff_eq] at h
          obtain ⟨⟨⟨⟨e1, e2⟩, e3⟩, e4⟩, e5⟩ := h
          subst e1
          have hm : ∀ cs : List Value, mkV (arrT l te) cs = .agg cs.toArray := fun cs => by simp [mkV, hag, aggD]
          have hd' : n ≤ d := by omega
          have hIH := fun (x y : Den te) (cs ds : List Value) hx hy => equalIn_sound (I := I) n d e te x y cs ds hd' e2 (by rw [h3]; exact e4.symm) hx hy
          rw [hm, hm, run_equalIn_array w d _ _ hu h2, List.range_eq_range']
          exact eqItems_sound h2 e3 h1 hIH l 0 x y (by simpa using hx) (by simpa using hy)
        · cases h
      | _ => cases h

theorem does_eqv (em : Emb Γ S a w) (sp : Spec) (base : Nat) {tx ty : Option Ty} {x y : Operand} {x' y' : Od} {op : BinOp} {neg : Bool} (hx : cOd tx x = some x') (hy : cOd ty y = some y') (hop : op = if neg then .neq else .eql)
    {o : Oper} {xt yt : TypeId} {t : Ty} {d : TypeDesc} (hu : P.underlying xt = some d) (hint : ∀ k, d ≠ .int k) (ht : tyS P xt = some t) (he : eqT P 12 xt t = true) (hg : P.eqGuardType P.depth xt = false)
    (ho : o.op = .binOp op xt x y yt) (hob : allP (aeff sp base S.T S.H (.eqv neg t x' y')).ob) : Does P Γ S.H w (aeff sp base S.T S.H (.eqv neg t x' y')) ((execOp a.eval o).run P w) := by
  have r1 := cOd_sound em hx
  have r2 := cOd_sound em hy
  rw [aeff] at hob ⊢
  obtain ⟨p, hob⟩ := p1_ob hob
  obtain ⟨q, hob⟩ := p1_ob hob
  have r1 := peel_sound r1 p
  have r2 := peel_sound r2 q
  show Does P Γ S.H w (match asD t (peel (ev S.T x')).2, asD t (peel (ev S.T y')).2 with | some a, some b => _ | _, _ => _) _
  cases h1 : asD t (peel (ev S.T x')).2 with
  | none => rw [h1] at hob; exact fail_elim hob
  | some u => cases h2 : asD t (peel (ev S.T y')).2 with
    | none => rw [h1, h2] at hob; exact fail_elim hob
    | some v =>
      rw [h1, h2] at hob
      simp only at hob ⊢
      split at hob
      · rename_i hq
        rw [if_pos hq]
        obtain ⟨cs, c1, c2⟩ := asD_sound h1 r1
        obtain ⟨ds, d1, d2⟩ := asD_sound h2 r2
        obtain ⟨i, d', hi, hu', hsz, hag⟩ := tyS_spec ht
        rw [hu] at hu'; cases hu'
        have heq := equalIn_sound (w := w) 12 Op.maxDepth xt t u v cs ds (by decide) he (by rw [hu]; exact hag.symm) c1 d1
        have hgr : (eqGuard op xt x y (mkV t cs) (mkV t ds)).run P w = .ok () w := by
          cases d with
          | int k => exact absurd rfl (hint k)
          | bool =>
            cases t with
            | bool =>
              simp only [RepC] at c1 d1
              subst c1; subst d1; subst hop
              cases neg <;> rfl
            | _ => simp [eqT, hu] at he
          | array l e =>
            have hm : ∀ cs : List Value, mkV t cs = .agg cs.toArray := fun cs => by simp [mkV, ← hag, aggD]
            rw [hm, hm]
            subst hop
            cases neg <;> simp [eqGuard, hg]
          | _ => simp [eqT, hu] at he
        have hbin : (binOp op xt (mkV t cs) (mkV t ds)).run P w = .ok (.bool (if neg then !deq t u v else deq t u v)) w := by
          cases d with
          | int k => exact absurd rfl (hint k)
          | bool =>
            cases t with
            | bool =>
              simp only [RepC] at c1 d1
              subst c1; subst d1; subst hop
              have heq' : (Op.equal xt (mkV .bool [.bool u]) (mkV .bool [.bool v])).run P w = .ok (deq .bool u v) w := heq
              simp only [mkV, isAgg, List.headD_cons, Bool.false_eq_true, if_false] at heq'
              cases neg <;> simp [binOp, mkV, isAgg, heq']
            | _ => simp [eqT, hu] at he
          | array l e =>
            have hm : ∀ cs : List Value, mkV t cs = .agg cs.toArray := fun cs => by simp [mkV, ← hag, aggD]
            rw [hm, hm] at heq ⊢
            subst hop
            have heq' : (Op.equal xt (.agg cs.toArray) (.agg ds.toArray)).run P w = .ok (deq t u v) w := heq
            cases neg <;> simp [binOp, heq']
          | _ => simp [eqT, hu] at he
        refine Does.val em.heap (v := .bool (if neg then !deq t u v else deq t u v)) ?_ rfl (Ra_bool.2 rfl)
        simp [execOp, ho, c2, d2, hgr, hbin]
      · exact fail_elim hob

end
end Go.Ab
