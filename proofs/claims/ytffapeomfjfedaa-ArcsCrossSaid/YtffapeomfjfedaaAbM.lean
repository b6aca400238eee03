/- Soundness: maps. -/
import Derived.Test.YtffapeomfjfedaaAb17
import Derived.MapKept
set_option linter.unusedVariables false
set_option linter.unusedSimpArgs false
namespace Go.Ab

section
variable {P : Program} {Γ : Cx} {H : List Hs} {w : World} {S : St} {a : Act}

theorem deq_eq : ∀ {t : Ty} {x y : Den t}, deq t x y = true → x = y
  | .int k, x, y, h => (beq_iff_eq (α := Int)).1 h
  | .bool, x, y, h => (beq_iff_eq (α := Bool)).1 h
  | .unit, x, y, h => rfl
  | .prod a b, x, y, h => by
    simp only [deq, Bool.and_eq_true] at h
    exact Prod.ext (deq_eq h.1) (deq_eq h.2)
  | .slice _, _, _, h => by cases h
  | .ptr _, _, _, h => by cases h
  | .optr _, _, _, h => by cases h
  | .map _ _, _, _, h => by cases h
  | .oth, _, _, h => by cases h

theorem rep_det {I : Nat → Prop} : ∀ {t : Ty} {x : Den t} {cs ds : List Value}, eqable t = true → RepC w I t x cs → RepC w I t x ds → cs = ds
  | .int k, x, cs, ds, _, h1, h2 => by simp only [RepC] at h1 h2; rw [h1, h2]
  | .bool, x, cs, ds, _, h1, h2 => by simp only [RepC] at h1 h2; rw [h1, h2]
  | .unit, x, cs, ds, _, h1, h2 => by simp only [RepC] at h1 h2; rw [h1, h2]
  | .prod a b, x, cs, ds, he, h1, h2 => by
    simp only [eqable, Bool.and_eq_true] at he
    simp only [RepC] at h1 h2
    obtain ⟨c1, c2, rfl, g1, g2⟩ := h1
    obtain ⟨d1, d2, rfl, k1, k2⟩ := h2
    rw [rep_det he.1 g1 k1, rep_det he.2 g2 k2]
  | .slice _, _, _, _, h, _, _ => by cases h
  | .ptr _, _, _, _, h, _, _ => by cases h
  | .optr _, _, _, _, h, _, _ => by cases h
  | .map _ _, _, _, _, h, _, _ => by cases h
  | .oth, _, _, _, h, _, _ => by cases h

theorem bits_int (k : IntKind) (n : Int) (m : Nat) : Instr.sameBits m (.int k n) (.int k n) = true := by cases m <;> simp [Instr.sameBits]
theorem bits_bool (b : Bool) (m : Nat) : Instr.sameBits m (.bool b) (.bool b) = true := by cases m <;> simp [Instr.sameBits]

theorem bits_cells {I : Nat → Prop} : ∀ {t : Ty} {x : Den t} {cs : List Value}, eqable t = true → RepC w I t x cs → ∀ c ∈ cs, ∀ m, Instr.sameBits m c c = true
  | .int k, x, cs, _, h => by simp only [RepC] at h; subst h; intro c hc m; rw [List.mem_singleton] at hc; subst hc; exact bits_int k x m
  | .bool, x, cs, _, h => by simp only [RepC] at h; subst h; intro c hc m; rw [List.mem_singleton] at hc; subst hc; exact bits_bool x m
  | .unit, x, cs, _, h => by simp only [RepC] at h; subst h; intro c hc; simp at hc
  | .prod a b, x, cs, he, h => by
    simp only [eqable, Bool.and_eq_true] at he
    simp only [RepC] at h
    obtain ⟨c1, c2, rfl, g1, g2⟩ := h
    intro c hc
    rcases List.mem_append.1 hc with hc | hc
    · exact bits_cells he.1 g1 c hc
    · exact bits_cells he.2 g2 c hc
  | .slice _, _, _, h, _ => by cases h
  | .ptr _, _, _, h, _ => by cases h
  | .optr _, _, _, h, _ => by cases h
  | .map _ _, _, _, h, _ => by cases h
  | .oth, _, _, h, _ => by cases h

theorem zip_self {f : Value × Value → Bool} : ∀ {l : List Value}, (∀ x ∈ l, f (x, x) = true) → (l.zip l).all f = true
  | [], _ => rfl
  | x :: l, h => by
    simp only [List.zip_cons_cons, List.all_cons, Bool.and_eq_true]
    exact ⟨h x (List.mem_cons_self ..), zip_self fun y hy => h y (List.mem_cons_of_mem _ hy)⟩

theorem bits_same {I : Nat → Prop} {t : Ty} {x : Den t} {cs : List Value} (he : eqable t = true) (h : RepC w I t x cs) (m : Nat) : Instr.sameBits (m + 1) (mkV t cs) (mkV t cs) = true := by
  have hb := bits_cells he h
  unfold mkV
  split
  · simp only [Instr.sameBits, beq_self_eq_true, Bool.true_and]
    exact zip_self fun c hc => hb c hc m
  · rename_i hag
    have hl := RepC.length _ _ _ h
    rw [RepC.one (by simpa using hag)] at hl
    match cs, hl, hb with
    | [u], _, hb => exact hb u (by simp) _

theorem checkKey_items {em : Bool} {e : TypeId} {te : Ty} {i : TypeInfo} {d : Nat} {I : Nat → Prop} (hi : P.info? e = some i) (hs : i.size = sz te) (ht : tyS P e = some te)
    (IH : ∀ (x : Den te) (cs : List Value), RepC w I te x cs → (Instr.checkKey em d e (mkV te cs)).run P w = .ok () w) {xs : Array Value} :
    ∀ (m k : Nat) (x : Den (arrT m te)), RepC w I (arrT m te) x (xs.toList.drop (k * sz te)) →
      (forIn (List.range' k m) PUnit.unit (fun i r => do let n ← sizeOf e; let v ← part e xs (i * n); Instr.checkKey em d e v; pure (ForInStep.yield PUnit.unit)) : Sem PUnit).run P w = .ok PUnit.unit w
  | 0, k, x, _ => by simp
  | m + 1, k, x, hx => by
    simp only [arrT, RepC] at hx
    obtain ⟨x1, x2, e1, hx1, hx2⟩ := hx
    have lx := RepC.length _ _ _ hx1
    have tx : (xs.toList.drop (k * sz te)).take (sz te) = x1 := by rw [e1, ← lx]; simp
    have dx : xs.toList.drop ((k + 1) * sz te) = x2 := by rw [Nat.succ_mul, ← List.drop_drop, e1, ← lx]; simp
    have px := part_sound (w := w) ht (cs := xs) (off := k * sz te) (by rw [tx]; exact hx1)
    rw [tx] at px
    have ih := checkKey_items hi hs ht IH m (k + 1) x.2 (by rw [dx]; exact hx2)
    have h0 := IH x.1 x1 hx1
    have hsz : (sizeOf e).run P w = .ok (sz te) w := by simp [sizeOf, typeInfo, hi, hs]
    rw [List.range'_succ]
    simp only [List.forIn_cons, Sem.run_bind, hsz, Result.andThen_ok, px, h0, Sem.run_pure]
    exact ih

theorem checkKey_sound {em : Bool} {I : Nat → Prop} : ∀ (n d : Nat) (t : TypeId) (ty : Ty) (x : Den ty) (cs : List Value), n ≤ d → eqT P n t ty = true → isAgg ty = (match P.underlying t with | some d => aggD d | none => false) → RepC w I ty x cs →
    (Instr.checkKey em d t (mkV ty cs)).run P w = .ok () w
  | 0, _, _, _, _, _, _, h, _, _ => by simp [eqT] at h
  | n + 1, 0, _, _, _, _, h, _, _, _ => by omega
  | n + 1, d + 1, t, ty, x, cs, hd, h, hag, hx => by
    cases hu : P.underlying t with
    | none => simp [eqT, hu] at h
    | some d0 =>
      simp only [eqT, hu] at h
      rw [hu] at hag
      cases d0 with
      | int k =>
        cases ty with
        | int k' =>
          simp only [RepC] at hx
          subst hx
          simp [Instr.checkKey, run_underlying hu, mkV, isAgg]
        | _ => cases h
      | bool =>
        cases ty with
        | bool =>
          simp only [RepC] at hx
          subst hx
          simp [Instr.checkKey, run_underlying hu, mkV, isAgg]
        | _ => cases h
      | array l e =>
        simp only at h
        split at h
        · rename_i te ie de h1 h2 h3
          simp only [Bool.and_eq_true, decide_eq_true_eq, beq_iff_eq] at h
          obtain ⟨⟨⟨⟨e1, e2⟩, e3⟩, e4⟩, e5⟩ := h
          subst e1
          have hm : ∀ cs : List Value, mkV (arrT l te) cs = .agg cs.toArray := fun cs => by simp [mkV, hag, aggD]
          have hd' : n ≤ d := by omega
          have hIH := fun (x : Den te) (cs : List Value) hx => checkKey_sound (em := em) (I := I) n d e te x cs hd' e2 (by rw [h3]; exact e4.symm) hx
          rw [hm, Instr.checkKey]
          simp only [Sem.run_bind, run_underlying hu, Result.andThen_ok]
          simp only [Std.Legacy.Range.forIn_eq_forIn_range', Std.Legacy.Range.size, Nat.sub_zero, Nat.add_one_sub_one, Nat.div_one]
          rw [checkKey_items h2 e3 h1 hIH l 0 x (by simpa using hx)]
          rfl
        · cases h
      | _ => cases h

/-! ### Finding a key -/

/-- One entry and the data that it stands for. -/
def EntAt (w : World) (I : Nat → Prop) (k v : Ty) (ent : MapEntry) (e : Den k × Den v) : Prop := ∃ ck cv, RepC w I k e.1 ck ∧ ent.key = mkV k ck ∧ RepC w I v e.2 cv ∧ ent.val = mkV v cv

def EntsAt (w : World) (I : Nat → Prop) (k v : Ty) : List MapEntry → List (Den k × Den v) → Prop
  | [], [] => True
  | ent :: ents, e :: es => EntAt w I k v ent e ∧ EntsAt w I k v ents es
  | _, _ => False

def findIx (k v : Ty) (es : List (Den k × Den v)) (x : Den k) (i : Nat) : Option (Nat × Den v) :=
  match es with
  | [] => none
  | e :: es => if deq k x e.1 then some (i, e.2) else findIx k v es x (i + 1)

theorem findAsking_sound {I : Nat → Prop} {kt : TypeId} {k v : Ty} (hk : eqT P 12 kt k = true) (hag : isAgg k = (match P.underlying kt with | some d => aggD d | none => false)) {x : Den k} {cx : List Value} (hx : RepC w I k x cx) :
    ∀ {ents : List MapEntry} {es : List (Den k × Den v)} (i : Nat), EntsAt w I k v ents es →
      ∃ r, (Instr.findAsking kt (mkV k cx) ents i).run P w = .ok r w ∧ (match findIx k v es x i with
        | none => r = none
        | some (j, y) => ∃ cv, r = some (j, mkV v cv) ∧ RepC w I v y cv)
  | [], [], i, _ => ⟨none, by simp [Instr.findAsking], rfl⟩
  | ent :: ents, e :: es, i, h => by
    obtain ⟨⟨ck, cv, h1, h2, h3, h4⟩, h5⟩ := h
    have heq := equalIn_sound (w := w) 12 Op.maxDepth kt k x e.1 cx ck (by decide) hk hag hx h1
    have heq' : (Op.equal kt (mkV k cx) ent.key).run P w = .ok (deq k x e.1) w := by rw [h2]; exact heq
    obtain ⟨r, hr, hm⟩ := findAsking_sound hk hag hx (i + 1) h5
    simp only [Instr.findAsking, Sem.run_bind, heq', Result.andThen_ok, findIx]
    cases hd : deq k x e.1 with
    | true => exact ⟨_, rfl, cv, by rw [h4], h3⟩
    | false => exact ⟨r, by simpa using hr, by simpa using hm⟩
  | [], _ :: _, _, h => h.elim
  | _ :: _, [], _, h => h.elim

theorem eqIn_int {d : Nat} {t : TypeId} {k k' : IntKind} {m n : Int} (hu : P.underlying t = some (.int k')) : (Op.equalIn (d + 1) t (.int k m) (.int k n)).run P w = .ok (m == n) w := by simp [Op.equalIn, run_underlying hu]
theorem eqIn_bool {d : Nat} {t : TypeId} {m n : Bool} (hu : P.underlying t = some .bool) : (Op.equalIn (d + 1) t (.bool m) (.bool n)).run P w = .ok (m == n) w := by simp [Op.equalIn, run_underlying hu]
theorem eqIn_string {d : Nat} {t : TypeId} {m n : ByteArray} (hu : P.underlying t = some .string) : (Op.equalIn (d + 1) t (.string m) (.string n)).run P w = .ok (m == n) w := by simp [Op.equalIn, run_underlying hu]

theorem sameNow_sound {kt : TypeId} {d : TypeDesc} (hu : P.underlying kt = some d) {x y : Value} {b : Bool} (h : Instr.sameNow d x y = some b) : (Op.equal kt x y).run P w = .ok b w := by
  have hd : Op.maxDepth = 9999 + 1 := rfl
  rw [Op.equal, hd]
  unfold Instr.sameNow at h
  split at h
  · split at h
    · rename_i hkk
      subst hkk
      cases h
      exact eqIn_int hu
    · cases h
  · cases h; exact eqIn_string hu
  · cases h; exact eqIn_bool hu
  · cases h

theorem findNow_sound {kt : TypeId} {d : TypeDesc} (hu : P.underlying kt = some d) {x : Value} : ∀ {ents : List MapEntry} {i : Nat} {r : Option (Nat × Value)}, Instr.findNow d x ents i = some r → (Instr.findAsking kt x ents i).run P w = .ok r w
  | [], i, r, h => by simp only [Instr.findNow, Option.some.injEq] at h; subst h; simp [Instr.findAsking]
  | ent :: ents, i, r, h => by
    simp only [Instr.findNow] at h
    split at h
    · rename_i hs
      cases h
      simp [Instr.findAsking, sameNow_sound (P := P) (w := w) hu hs]
    · rename_i hs
      have := findNow_sound hu h
      simp [Instr.findAsking, sameNow_sound (P := P) (w := w) hu hs, this]
    · cases h

theorem findKey_sound {I : Nat → Prop} {kt : TypeId} {d : TypeDesc} (hu : P.underlying kt = some d) {k v : Ty} (hk : eqT P 12 kt k = true) (hag : isAgg k = aggD d) {x : Den k} {cx : List Value} (hx : RepC w I k x cx)
    {ents : List MapEntry} {es : List (Den k × Den v)} (h : EntsAt w I k v ents es) :
      ∃ r, (Instr.findKey kt (mkV k cx) ents).run P w = .ok r w ∧ (match findIx k v es x 0 with
        | none => r = none
        | some (j, y) => ∃ cv, r = some (j, mkV v cv) ∧ RepC w I v y cv) := by
  obtain ⟨r, hr, hm⟩ := findAsking_sound (P := P) hk (by rw [hu]; exact hag) hx 0 h
  refine ⟨r, ?_, hm⟩
  simp only [Instr.findKey, Sem.run_bind, run_underlying hu, Result.andThen_ok]
  cases hf : Instr.findNow d (mkV k cx) ents 0 with
  | none => exact hr
  | some r' =>
    have := findNow_sound (w := w) hu hf
    rw [hr] at this
    cases this
    rfl

theorem findIx_assoc {k v : Ty} {x : Den k} : ∀ {es : List (Den k × Den v)} {i : Nat}, assoc k v es x = (findIx k v es x i).map (·.2)
  | [], _ => rfl
  | e :: es, i => by
    simp only [assoc, findIx]
    split
    · rfl
    · exact findIx_assoc

theorem EntsAt.of_get {I : Nat → Prop} {k v : Ty} : ∀ {ents : List MapEntry} {es : List (Den k × Den v)}, ents.length = es.length → (∀ (i : Nat) (e : Den k × Den v), es[i]? = some e → ∃ ent ck cv, ents[i]? = some ent ∧ RepC w I k e.1 ck ∧ ent.key = mkV k ck ∧ RepC w I v e.2 cv ∧ ent.val = mkV v cv) → EntsAt w I k v ents es
  | [], [], _, _ => trivial
  | ent :: ents, e :: es, hl, h => by
    refine ⟨?_, EntsAt.of_get (by simpa using hl) fun i e' he' => by simpa using h (i + 1) e' (by simpa using he')⟩
    obtain ⟨ent', ck, cv, h0, h1⟩ := h 0 e rfl
    simp only [List.getElem?_cons_zero, Option.some.injEq] at h0
    subst h0
    exact ⟨ck, cv, h1⟩
  | [], _ :: _, hl, _ => by simp at hl
  | _ :: _, [], hl, _ => by simp at hl

theorem EntsAt.length {I : Nat → Prop} {k v : Ty} : ∀ {ents : List MapEntry} {es : List (Den k × Den v)}, EntsAt w I k v ents es → ents.length = es.length
  | [], [], _ => rfl
  | _ :: _, _ :: _, h => by simp [EntsAt.length h.2]
  | [], _ :: _, h => h.elim
  | _ :: _, [], h => h.elim

theorem EntsAt.get {I : Nat → Prop} {k v : Ty} : ∀ {ents : List MapEntry} {es : List (Den k × Den v)}, EntsAt w I k v ents es → ∀ (i : Nat) (e : Den k × Den v), es[i]? = some e → ∃ ent ck cv, ents[i]? = some ent ∧ RepC w I k e.1 ck ∧ ent.key = mkV k ck ∧ RepC w I v e.2 cv ∧ ent.val = mkV v cv
  | ent :: ents, e :: es, h, 0, e', he => by
    simp only [List.getElem?_cons_zero, Option.some.injEq] at he
    subst he
    obtain ⟨ck, cv, h1⟩ := h.1
    exact ⟨ent, ck, cv, rfl, h1⟩
  | ent :: ents, e :: es, h, i + 1, e', he => by
    simp only [List.getElem?_cons_succ] at he ⊢
    exact EntsAt.get h.2 i e' he
  | [], [], _, _, _, he => by simp at he
  | [], _ :: _, h, _, _, _ => h.elim
  | _ :: _, [], h, _, _, _ => h.elim

theorem lookup_run {I : Nat → Prop} {t kt vt : TypeId} {k v : Ty} {inf : TypeInfo} {z : Value} {d : Den v} (hu : P.underlying t = some (.map kt vt)) (hk : tyS P kt = some k) (hinf : P.info? vt = some inf) (hz : inf.zero = some z)
    (hd : denOf v z.cells.toList = some d) (heq : eqT P 12 kt k = true) (hagv : isAgg v = aggV z) {r clock : Nat} {ents : Array MapEntry} {es : List (Den k × Den v)} (hr : w.heap[r]? = some (.map ents clock)) (he : EntsAt w I k v ents.toList es)
    {x : Den k} {cx : List Value} (hx : RepC w I k x cx) (ok : Bool) :
    ∃ cv, (Instr.lookup t (.map (some r)) (mkV k cx) ok).run P w = .ok (if ok then .tuple #[mkV v cv, .bool (assoc k v es x).isSome] else mkV v cv) w ∧ RepC w I v ((assoc k v es x).getD d) cv := by
  obtain ⟨ik, dk, hik, huk, hsk, hak⟩ := tyS_spec hk
  have hag : isAgg k = (match P.underlying kt with | some d => aggD d | none => false) := by rw [huk]; exact hak.symm
  have h1 := checkKey_sound (w := w) (em := ents.isEmpty) 12 10000 kt k x cx (by decide) heq hag hx
  obtain ⟨res, h2, h3⟩ := findKey_sound (P := P) huk heq hak.symm hx he
  have hzv : mkV v z.cells.toList = z := by
    unfold mkV
    rw [hagv]
    cases z <;> simp [aggV, Value.cells]
  rw [findIx_assoc (i := 0)]
  cases hf : findIx k v es x 0 with
  | none =>
    rw [hf] at h3
    subst h3
    refine ⟨z.cells.toList, ?_, denOf_sound _ _ _ hd⟩
    simp [Instr.lookup, run_underlying hu, MapKept.run_getObj_map hr, h1, h2, zeroValue, typeInfo, hinf, hz, hzv]
  | some jy =>
    obtain ⟨j, y⟩ := jy
    rw [hf] at h3
    obtain ⟨cv, rfl, hcv⟩ := h3
    refine ⟨cv, ?_, hcv⟩
    simp [Instr.lookup, run_underlying hu, MapKept.run_getObj_map hr, h1, h2]

theorem does_lookup (em : Emb Γ S a w) (sp : Spec) (base : Nat) {x i : Operand} {x' i' : Od} {tx ti : Option Ty} (hx : cOd tx x = some x') (hi : cOd ti i = some i') {t kt vt : TypeId} {k v : Ty} {inf : TypeInfo} {z : Value} {d : Den v}
    (hu : P.underlying t = some (.map kt vt)) (hk : tyS P kt = some k) (hinf : P.info? vt = some inf) (hz : inf.zero = some z)
    (hd : denOf v z.cells.toList = some d) (heq : eqT P 12 kt k = true) (hagv : isAgg v = aggV z) {ok : Bool} {o : Oper} (ho : o.op = .lookup t x i ok)
    (hob : allP (aeff sp base S.T S.H (.lookup k v d x' i' ok)).ob) : Does P Γ S.H w (aeff sp base S.T S.H (.lookup k v d x' i' ok)) ((execOp a.eval o).run P w) := by
  have r1 := cOd_sound em hx
  have r2 := cOd_sound em hi
  rw [aeff] at hob ⊢
  have hob0 := p1_ob hob
  clear hob
  obtain ⟨p, hob⟩ := hob0
  have r2 := peel_sound r2 p
  revert hob
  dsimp only [p1]
  generalize (peel (ev S.T i')).2 = Y at r2
  cases hY : asD k Y with
  | none => exact fun hob => fail_elim hob
  | some key =>
    obtain ⟨cx, c1, c2⟩ := asD_sound hY r2
    by_cases hq : eqable k = true
    · simp only [hq, if_true]
      intro hob
      have hob0 := allP_app.1 hob
      clear hob
      obtain ⟨p2, hob⟩ := hob0
      have r1 := peel_sound r1 p2
      revert hob
      generalize (peel (ev S.T x')).2 = X at r1
      cases hX : asD (.map k v) X with
      | some es =>
        intro hob
        obtain ⟨cs, m1, m2⟩ := asD_sound hX r1
        simp only [RepC] at m1
        obtain ⟨r, ents, clock, e1, e2, e3, e4, e5⟩ := m1
        subst e1
        have hents : EntsAt w Γ.I k v ents.toList es := EntsAt.of_get (by simpa using e4) fun i e he => by simpa using e5 i e he
        obtain ⟨cv, hrun, hcv⟩ := lookup_run (P := P) hu hk hinf hz hd heq hagv e3 hents c1 ok
        have hxv : a.eval x = .map (some r) := m2
        have hex : (execOp a.eval o).run P w = .ok (.value (if ok then .tuple #[mkV v cv, .bool (assoc k v es key).isSome] else mkV v cv)) w := by
          simp [execOp, ho, c2, hxv, hrun]
        cases ok with
        | false => exact Does.val em.heap hex rfl (Ra_val.2 ⟨cv, hcv, rfl⟩)
        | true =>
          refine Does.val em.heap hex rfl ?_
          simp only [if_true, Ef.ok, Ra, Rp, List.cons.injEq, and_true]
          exact ⟨[mkV v cv, .bool _], rfl, _, _, rfl, ⟨_, rfl, cv, hcv, rfl⟩, _, _, rfl, ⟨_, rfl, Ra_val.1 (Ra_bool.2 rfl)⟩, rfl⟩
      | none =>
        intro hob
        simp only at hob ⊢
        cases X with
        | mref b =>
          simp only at hob ⊢
          simp only [Ra, Rp, List.cons.injEq, and_true] at r1
          cases hg : hget S.H b with
          | none => rw [hg] at hob; exact fail_elim hob
          | some B =>
            have hB := em.heap.blk b B (hget_eq hg)
            rw [hg] at hob
            cases B with
            | map k' v' es =>
              simp only at hob ⊢
              cases hc : castM k' v' k v es with
              | none => rw [hc] at hob; exact fail_elim hob
              | some es' =>
                obtain ⟨f1, f2⟩ := castD_eq hc
                cases f1
                subst f2
                simp only [RepB] at hB
                obtain ⟨hk0, ents, clock, e3, e4, e5⟩ := hB
                have hents : EntsAt w Γ.I k v ents.toList es' := EntsAt.of_get (by simpa using e4) fun i e he => by simpa using e5 i e he
                obtain ⟨cv, hrun, hcv⟩ := lookup_run (P := P) hu hk hinf hz hd heq hagv e3 hents c1 ok
                have hex : (execOp a.eval o).run P w = .ok (.value (if ok then .tuple #[mkV v cv, .bool (assoc k v es' key).isSome] else mkV v cv)) w := by
                  simp [execOp, ho, c2, r1.2, hrun]
                cases ok with
                | false => exact Does.val em.heap hex rfl (Ra_val.2 ⟨cv, hcv, rfl⟩)
                | true =>
                  refine Does.val em.heap hex rfl ?_
                  simp only [if_true, Ra, Rp, List.cons.injEq, and_true]
                  exact ⟨[mkV v cv, .bool _], rfl, _, _, rfl, ⟨_, rfl, cv, hcv, rfl⟩, _, _, rfl, ⟨_, rfl, Ra_val.1 (Ra_bool.2 rfl)⟩, rfl⟩
            | _ => exact fail_elim hob
        | _ => exact fail_elim hob
    · simp only [hq, if_false]
      exact fun hob => fail_elim hob

/-- One entry set anew. -/
theorem upd_found {I : Nat → Prop} {k v : Ty} (hq : eqable k = true) {x : Den k} {cx : List Value} (hx : RepC w I k x cx) {y : Den v} {cy : List Value} (hy : RepC w I v y cy) {nk nv : Value} (hnk : nk = mkV k cx) (hnv : nv = mkV v cy) :
    ∀ {ents : List MapEntry} {es : List (Den k × Den v)} (i : Nat) {j : Nat} {z : Den v}, EntsAt w I k v ents es → findIx k v es x i = some (j, z) →
      i ≤ j ∧ (∃ ent, ents[j - i]? = some ent ∧ ent.key = mkV k cx) ∧ EntsAt w I k v (ents.modify (j - i) fun e => { e with key := nk, val := nv }) (assocUp k v es x y)
  | [], [], i, j, z, _, h => by simp [findIx] at h
  | ent :: ents, e :: es, i, j, z, he, h => by
    simp only [findIx] at h
    obtain ⟨⟨ck, cv, h1, h2, h3, h4⟩, h5⟩ := he
    cases hd : deq k x e.1 with
    | true =>
      simp only [hd, if_true, Option.some.injEq, Prod.mk.injEq] at h
      obtain ⟨rfl, _⟩ := h
      have hxe := deq_eq hd
      rw [← hxe] at h1
      have := rep_det hq h1 hx
      subst this
      refine ⟨Nat.le_refl _, ⟨ent, by simp, h2⟩, ?_⟩
      simp only [Nat.sub_self, assocUp, hd, if_true]
      exact ⟨⟨ck, cy, hx, hnk, hy, hnv⟩, h5⟩
    | false =>
      simp only [hd, Bool.false_eq_true, if_false] at h
      obtain ⟨g1, ⟨ent', g2, g3⟩, g4⟩ := upd_found hq hx hy hnk hnv (i + 1) h5 h
      have hji : j - i = (j - (i + 1)) + 1 := by omega
      refine ⟨by omega, ⟨ent', by rw [hji]; simpa using g2, g3⟩, ?_⟩
      simp only [assocUp, hd, Bool.false_eq_true, if_false]
      rw [hji]
      exact ⟨⟨ck, cv, h1, h2, h3, h4⟩, g4⟩
  | [], _ :: _, _, _, _, he, _ => he.elim
  | _ :: _, [], _, _, _, he, _ => he.elim

theorem upd_new {I : Nat → Prop} {k v : Ty} {x : Den k} {cx : List Value} (hx : RepC w I k x cx) {y : Den v} {cy : List Value} (hy : RepC w I v y cy) {new : MapEntry} (hnk : new.key = mkV k cx) (hnv : new.val = mkV v cy) :
    ∀ {ents : List MapEntry} {es : List (Den k × Den v)} (i : Nat), EntsAt w I k v ents es → findIx k v es x i = none → EntsAt w I k v (ents ++ [new]) (assocUp k v es x y)
  | [], [], i, _, _ => ⟨⟨cx, cy, hx, hnk, hy, hnv⟩, trivial⟩
  | ent :: ents, e :: es, i, he, h => by
    simp only [findIx] at h
    cases hd : deq k x e.1 with
    | true => simp [hd] at h
    | false =>
      simp only [hd, Bool.false_eq_true, if_false] at h
      simp only [assocUp, hd, Bool.false_eq_true, if_false]
      exact ⟨he.1, upd_new hx hy hnk hnv (i + 1) he.2 h⟩
  | [], _ :: _, _, he, _ => he.elim
  | _ :: _, [], _, he, _ => he.elim

theorem mapup_run {I : Nat → Prop} {t kt vt : TypeId} {k v : Ty} (hu : P.underlying t = some (.map kt vt)) (hk : tyS P kt = some k) (heq : eqT P 12 kt k = true) (hq : eqable k = true) {r clock : Nat} {ents : Array MapEntry} {es : List (Den k × Den v)}
    (hr : w.heap[r]? = some (.map ents clock)) (he : EntsAt w I k v ents.toList es) {x : Den k} {cx : List Value} (hx : RepC w I k x cx) {y : Den v} {cy : List Value} (hy : RepC w I v y cy) :
    ∃ ents' clock', (Instr.mapUpdate t (.map (some r)) (mkV k cx) (mkV v cy)).run P w = .ok () { w with heap := w.heap.setIfInBounds r (.map ents' clock') } ∧ EntsAt w I k v ents'.toList (assocUp k v es x y) := by
  obtain ⟨ik, dk, hik, huk, hsk, hak⟩ := tyS_spec hk
  have hag : isAgg k = (match P.underlying kt with | some d => aggD d | none => false) := by rw [huk]; exact hak.symm
  have h1 := checkKey_sound (w := w) (em := false) 12 10000 kt k x cx (by decide) heq hag hx
  obtain ⟨res, h2, h3⟩ := findKey_sound (P := P) huk heq hak.symm hx he
  cases hf : findIx k v es x 0 with
  | none =>
    rw [hf] at h3
    subst h3
    refine ⟨ents.push { key := mkV k cx, val := mkV v cy, born := clock }, clock + 1, ?_, ?_⟩
    · simp [Instr.mapUpdate, run_underlying hu, MapKept.run_getObj_map hr, h1, h2, MapKept.run_setObj_map _ hr]
    · rw [Array.toList_push]
      exact upd_new hx hy rfl rfl 0 he hf
  | some jz =>
    obtain ⟨j, z⟩ := jz
    rw [hf] at h3
    obtain ⟨cv, rfl, _⟩ := h3
    obtain ⟨g1, ⟨ent, g2, g3⟩, g4⟩ := upd_found hq hx hy (nk := mkV k cx) (nv := mkV v cy) rfl rfl 0 he hf
    rw [Nat.sub_zero] at g2 g4
    refine ⟨ents.modify j fun e => { e with key := mkV k cx, val := mkV v cy }, clock, ?_, ?_⟩
    · have g2' : ents[j]? = some ent := by simpa using g2
      have hb := bits_same hq hx 9999
      have hks : (Instr.keyThatStays (mkV k cx) (mkV k cx)).run P w = .ok (mkV k cx) w := by simp [Instr.keyThatStays, hb]
      simp [Instr.mapUpdate, run_underlying hu, MapKept.run_getObj_map hr, h1, h2, g2', g3, hks, MapKept.run_setObj_map _ hr]
    · rw [Array.toList_modify]
      exact g4

theorem does_mapup (em : Emb Γ S a w) (sp : Spec) (base : Nat) {m x y : Operand} {m' x' y' : Od} {tm tx ty : Option Ty} (hm : cOd tm m = some m') (hx : cOd tx x = some x') (hy : cOd ty y = some y') {t kt vt : TypeId} {k v : Ty}
    (hu : P.underlying t = some (.map kt vt)) (hk : tyS P kt = some k) (heq : eqT P 12 kt k = true) {o : Oper} (ho : o.op = .mapUpdate t m x y ∨ o.op = .insert t m x y)
    (hob : allP (aeff sp base S.T S.H (.mapup k v m' x' y')).ob) : Does P Γ S.H w (aeff sp base S.T S.H (.mapup k v m' x' y')) ((execOp a.eval o).run P w) := by
  have r0 := cOd_sound em hm
  have r1 := cOd_sound em hx
  have r2 := cOd_sound em hy
  have hexec : ∀ w', (Instr.mapUpdate t (a.eval m) (a.eval x) (a.eval y)).run P w = .ok () w' → (execOp a.eval o).run P w = .ok .skip w' := fun w' h => by
    rcases ho with ho | ho <;> simp [execOp, ho, h]
  rw [aeff] at hob ⊢
  have hob0 := p1_ob hob
  clear hob
  obtain ⟨p, hob⟩ := hob0
  have r0 := peel_sound r0 p
  revert hob
  dsimp only [p1]
  generalize (peel (ev S.T m')).2 = X at r0
  intro hob
  cases X with
  | mref b =>
    simp only at hob ⊢
    obtain ⟨p1, hob⟩ := allP_app.1 hob
    obtain ⟨p2, hob⟩ := allP_app.1 hob
    have r1 := peel_sound r1 p1
    have r2 := peel_sound r2 p2
    revert hob
    generalize (peel (ev S.T x')).2 = X1 at r1
    generalize (peel (ev S.T y')).2 = Y1 at r2
    intro hob
    cases hX : asD k X1 with
    | none => rw [hX] at hob; exact fail_elim hob
    | some xx =>
      cases hY : asD v Y1 with
      | none => rw [hX, hY] at hob; exact fail_elim hob
      | some yy =>
        cases hg : hget S.H b with
        | none => rw [hX, hY, hg] at hob; exact fail_elim hob
        | some B =>
          rw [hX, hY, hg] at hob
          have hb := hget_eq hg
          have hB := em.heap.blk b B hb
          cases B with
          | map k' v' es =>
            simp only at hob ⊢
            cases hc : castM k' v' k v es with
            | none => rw [hc] at hob; exact fail_elim hob
            | some es' =>
              rw [hc] at hob
              obtain ⟨f1, f2⟩ := castD_eq hc
              cases f1
              subst f2
              simp only at hob ⊢
              by_cases hq : eqable k = true
              · rw [if_pos hq]
                simp only [Ra, Rp, List.cons.injEq, and_true] at r0
                obtain ⟨cx, c1, c2⟩ := asD_sound hX r1
                obtain ⟨cy, d1, d2⟩ := asD_sound hY r2
                have hB' := hB
                simp only [RepB] at hB
                obtain ⟨hk0, ents, clock, e3, e4, e5⟩ := hB
                have hents : EntsAt w Γ.I k v ents.toList es' := EntsAt.of_get (by simpa using e4) fun i e he => by simpa using e5 i e he
                obtain ⟨ents', clock', hrun, hents'⟩ := mapup_run (P := P) hu hk heq hq e3 hents c1 d1
                have hlt : Γ.ν b < w.heap.size := em.heap.lt ⟨_, hb⟩ hk0
                have hother : ∀ n, n ≠ Γ.ν b → ({ w with heap := w.heap.setIfInBounds (Γ.ν b) (.map ents' clock') } : World).heap[n]? = w.heap[n]? := fun n hn => Array.getElem?_setIfInBounds_ne (Ne.symm hn)
                have hI : ∀ n, Γ.I n → ({ w with heap := w.heap.setIfInBounds (Γ.ν b) (.map ents' clock') } : World).heap[n]? = w.heap[n]? := fun n hn => hother n fun e => em.heap.imm b ⟨_, hb⟩ hk0 (e ▸ hn)
                have hnew : RepB { w with heap := w.heap.setIfInBounds (Γ.ν b) (.map ents' clock') } Γ b (.map k v (assocUp k v es' xx yy)) := by
                  simp only [RepB]
                  refine ⟨hk0, ents', clock', ?_, by have := hents'.length; simpa using this, fun i e he => ?_⟩
                  · exact Array.getElem?_setIfInBounds_self_of_lt hlt
                  · obtain ⟨ent, ck, cv, q1, q2, q3, q4, q5⟩ := hents'.get i e he
                    exact ⟨ent, ck, cv, by simpa using q1, RepC.mono (fun _ h => h) hI k _ _ q2, q3, RepC.mono (fun _ h => h) hI v _ _ q4, q5⟩
                refine Does.skip (hexec _ (by rw [r0.2, c2, d2]; exact hrun)) rfl (em.heap.write hb hk0 hother (by simp) rfl rfl hnew) Ra_undef
              · rw [if_neg hq] at hob; exact fail_elim hob
          | _ => exact fail_elim hob
  | _ => exact fail_elim hob

end
end Go.Ab
