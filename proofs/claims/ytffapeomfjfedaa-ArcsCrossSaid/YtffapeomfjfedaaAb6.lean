/- Soundness, third part: each operation that touches no mutable block. -/
import Derived.Test.YtffapeomfjfedaaAb5
set_option linter.unusedVariables false
set_option linter.unusedSimpArgs false
namespace Go.Ab

/-- What a run of an operation leaves. -/
def Does (P : Program) (Γ : Cx) (H : List Hs) (w : World) (e : Ef) (r : Result Next) : Prop :=
  (∃ v w' Γ', (r = .ok (.value v) w' ∨ (r = .ok .skip w' ∧ v = undef)) ∧ Ext Γ H w Γ' (putUp H e.up) w' ∧ EmbH Γ' (putUp H e.up) w' ∧ Ra w' Γ' e.v v) ∨
  (∃ f args, r = .ok (.enter f args) w ∧ Calls P f args w fun en w' => ∃ v Γ', en = .returned v ∧ Ext Γ H w Γ' (putUp H e.up) w' ∧ EmbH Γ' (putUp H e.up) w' ∧ Ra w' Γ' e.v v)

def SpecOk (P : Program) (sp : Spec) : Prop :=
  ∀ (f : FuncId) (H : List Hs) (base : Nat) (args : List AV), allP (sp f H base args).ob → callable P f = true ∧
    ∀ (Γ : Cx) (w : World) (vs : List Value), EmbH Γ H w → Fa w Γ args vs →
      Calls P f vs.toArray w fun en w' => ∃ v Γ', en = .returned v ∧ Ext Γ H w Γ' (putUp H (sp f H base args).up) w' ∧ EmbH Γ' (putUp H (sp f H base args).up) w' ∧ Ra w' Γ' (sp f H base args).v v

theorem fail_elim {α : Prop} (h : allP Ef.fail.ob) : α := (allP_one.1 h).elim

section
variable {P : Program} {Γ : Cx} {H : List Hs} {w : World} {S : St} {a : Act}

theorem Does.val {e : Ef} {r : Result Next} {v : Value} (em : EmbH Γ H w) (h : r = .ok (.value v) w) (hup : e.up = []) (hr : Ra w Γ e.v v) : Does P Γ H w e r := by
  refine .inl ⟨v, w, Γ, .inl h, ?_, ?_, hr⟩
  · rw [hup]; exact Ext.refl _ _ _
  · rw [hup]; exact em

theorem Ra_undef {v : Value} : Ra w Γ .undef v := by simp only [Ra, Rp]; exact ⟨v, rfl⟩

theorem constA_sound {ty : Option Ty} {v : Value} {x : AV} (h : constA ty v = some x) : Ra w Γ x v := by
  cases v with
  | int k n => simp only [constA, Option.some.injEq] at h; subst h; exact Ra_int.2 rfl
  | bool b => simp only [constA, Option.some.injEq] at h; subst h; exact Ra_bool.2 rfl
  | slice ad n c =>
    cases ad with
    | some ad => simp [constA] at h
    | none =>
      cases n with
      | succ n => simp [constA] at h
      | zero => cases c with
        | succ c => simp [constA] at h
        | zero =>
          simp only [constA] at h
          split at h
          · cases h
            exact Ra_vsl.2 ⟨none, rfl, Nat.le_refl _, fun _ => rfl, fun i x hx => by simp at hx⟩
          · cases h
  | pointer p =>
    cases p with
    | some p => simp [constA] at h
    | none =>
      simp only [constA] at h
      split at h
      · cases h
        exact Ra_val.2 ⟨[.pointer none], by simp only [RepC]; exact .inl ⟨rfl, trivial⟩, rfl⟩
      · cases h
  | agg cs =>
    simp only [constA] at h
    split at h
    · split at h
      · split at h
        · cases h
          rename_i hag _ x hd
          exact Ra_val.2 ⟨_, denOf_sound _ _ _ hd, by simp [mkV, hag]⟩
        · cases h
      · cases h
    · cases h
  | _ => simp [constA] at h

theorem cOd_sound (em : Emb Γ S a w) {ty : Option Ty} {x : Operand} {od : Od} (h : cOd ty x = some od) : Ra w Γ (ev S.T od) (a.eval x) := by
  cases x with
  | tmp t => simp only [cOd, Option.some.injEq] at h; subst h; exact ev_tmp em t
  | const v =>
    simp only [cOd] at h
    split at h
    · cases h; rename_i hc; exact constA_sound hc
    · cases h
  | global g => simp [cOd] at h
  | func f =>
    simp only [cOd, Option.some.injEq] at h
    subst h
    simp only [ev, Ra, Rp]
    exact ⟨[], rfl, rfl⟩

theorem constInt_sound {x : Operand} {c : Int} (h : constInt x = some c) : ∃ k, a.eval x = .int k c := by
  cases x <;> simp only [constInt] at h <;> try cases h
  rename_i v
  cases v <;> simp at h
  subst h
  exact ⟨_, rfl⟩

/-- One operand, peeled. -/
theorem p1_ob {x : AV} {k : AV → Ef} (h : allP (p1 x k).ob) : allP (peel x).1 ∧ allP (k (peel x).2).ob := allP_app.1 h

theorem tyS_spec {t : TypeId} {ty : Ty} (h : tyS P t = some ty) : ∃ i d, P.info? t = some i ∧ P.underlying t = some d ∧ i.size = sz ty ∧ aggD d = isAgg ty := by
  unfold tyS at h
  split at h
  · split at h
    · cases h; rename_i i d h1 h2 _ h3; exact ⟨i, d, h1, h2, h3.1, h3.2⟩
    · cases h
  · cases h

theorem does_mv (em : Emb Γ S a w) {ty : Option Ty} {x : Operand} {od : Od} (h : cOd ty x = some od) {r : Result Next} (hr : r = .ok (.value (a.eval x)) w) : Does P Γ S.H w (.ok (ev S.T od)) r :=
  Does.val em.heap hr rfl (cOd_sound em h)

theorem Ra_cond {t : Ty} {x : Bool} {y z : Den t} {v : Value} (h1 : x = true → Ra w Γ (.val t y) v) (h2 : x = false → Ra w Γ (.val t z) v) : Ra w Γ (.val t (bif x then y else z)) v := by
  cases x
  · exact h2 rfl
  · exact h1 rfl

theorem does_pick (em : Emb Γ S a w) (sp : Spec) (base : Nat) {c x y : Operand} {c' x' y' : Od} (hc : cOd none c = some c') (hx : cOd none x = some x') (hy : cOd none y = some y')
    {o : Oper} (ho : o.op = .pick c x y) (hob : allP (aeff sp base S.T S.H (.pick c' x' y')).ob) : Does P Γ S.H w (aeff sp base S.T S.H (.pick c' x' y')) ((execOp a.eval o).run P w) := by
  have r1 := cOd_sound em hc
  have r2 := cOd_sound em hx
  have r3 := cOd_sound em hy
  rw [aeff] at hob ⊢
  obtain ⟨p, hob⟩ := p1_ob hob
  have r1 := peel_sound r1 p
  show Does P Γ S.H w (match asBool (peel (ev S.T c')).2 with | some x => _ | none => _) _
  cases hb : asBool (peel (ev S.T c')).2 with
  | none => rw [hb] at hob; exact fail_elim hob
  | some b =>
    have e1 := asBool_sound hb r1
    rw [hb] at hob
    simp only at hob ⊢
    cases hx2 : peel (ev S.T x') with
    | mk p1 x2 => cases hy2 : peel (ev S.T y') with
      | mk p2 y2 =>
        rw [hx2, hy2] at hob
        cases x2 with
        | val t1 z1 => cases y2 with
          | val t2 z2 =>
            simp only at hob ⊢
            cases hcast : castD t2 t1 z2 with
            | none => rw [hcast] at hob; exact fail_elim hob
            | some z =>
              rw [hcast] at hob
              obtain ⟨et, rfl⟩ := castD_eq hcast
              subst et
              obtain ⟨h1, h2⟩ := allP_app.1 hob
              have g1 := impP_iff.1 h1
              have g2 := impP_iff.1 h2
              have q1 : b = true → Ra w Γ (.val t2 z1) (a.eval x) := fun hbt => by
                have := peel_sound r2 (by rw [hx2]; exact g1 hbt)
                rwa [hx2] at this
              have q2 : b = false → Ra w Γ (.val t2 z2) (a.eval y) := fun hbt => by
                have := peel_sound r3 (by rw [hy2]; exact g2 hbt)
                rwa [hy2] at this
              refine Does.val em.heap (v := if b then a.eval x else a.eval y) ?_ rfl ?_
              · simp [execOp, ho, e1, Go.asBool]
              · cases b
                · exact Ra_cond (fun h => by cases h) (fun _ => q2 rfl)
                · exact Ra_cond (fun _ => q1 rfl) (fun h => by cases h)
          | _ => exact fail_elim hob
        | _ => exact fail_elim hob

theorem binI_sound {op : BinOp} {b : BOp} (hop : bopOf op = some b) {k k' : IntKind} {x y : Int} (hk : b = .shl ∨ b = .shr ∨ k = k') (hob : allP (binI b k x y).1) (xt : TypeId) :
    ∃ v, (binOp op xt (.int k x) (.int k' y)).run P w = .ok v w ∧ Ra w Γ (binI b k x y).2 v := by
  have hshl : ∀ b : BOp, b = .shl ∨ b = .shr ∨ k = k' → b ≠ .shl → b ≠ .shr → k = k' := fun b h h1 h2 => (h.resolve_left h1).resolve_left h2
  cases op <;> simp only [bopOf, Option.some.injEq, reduceCtorEq] at hop <;> subst hop
  case add => have e := hshl _ hk (by simp) (by simp); subst e; refine ⟨_, ?_, Ra_int.2 rfl⟩; simp [binOp, Op.intArith, wr, iand, ior, ixor, iandn, ishl, ishr]
  case sub => have e := hshl _ hk (by simp) (by simp); subst e; refine ⟨_, ?_, Ra_int.2 rfl⟩; simp [binOp, Op.intArith, wr, iand, ior, ixor, iandn, ishl, ishr]
  case mul => have e := hshl _ hk (by simp) (by simp); subst e; refine ⟨_, ?_, Ra_int.2 rfl⟩; simp [binOp, Op.intArith, wr, iand, ior, ixor, iandn, ishl, ishr]
  case quo => have e := hshl _ hk (by simp) (by simp); subst e; have h0 := allP_one.1 hob; refine ⟨_, ?_, Ra_int.2 rfl⟩; simp [binOp, Op.intDiv, h0, wr, iand, ior, ixor, iandn, ishl, ishr]
  case rem => have e := hshl _ hk (by simp) (by simp); subst e; have h0 := allP_one.1 hob; refine ⟨_, ?_, Ra_int.2 rfl⟩; simp [binOp, Op.intDiv, h0, wr, iand, ior, ixor, iandn, ishl, ishr]
  case and => have e := hshl _ hk (by simp) (by simp); subst e; refine ⟨_, ?_, Ra_int.2 rfl⟩; simp [binOp, Op.intBits, wr, iand, ior, ixor, iandn, ishl, ishr]
  case or => have e := hshl _ hk (by simp) (by simp); subst e; refine ⟨_, ?_, Ra_int.2 rfl⟩; simp [binOp, Op.intBits, wr, iand, ior, ixor, iandn, ishl, ishr]
  case xor => have e := hshl _ hk (by simp) (by simp); subst e; refine ⟨_, ?_, Ra_int.2 rfl⟩; simp [binOp, Op.intBits, wr, iand, ior, ixor, iandn, ishl, ishr]
  case andNot => have e := hshl _ hk (by simp) (by simp); subst e; refine ⟨_, ?_, Ra_int.2 rfl⟩; simp [binOp, Op.intBits, wr, iand, ior, ixor, iandn, ishl, ishr]
  case shl => have h0 := allP_one.1 hob; refine ⟨_, ?_, Ra_int.2 rfl⟩; simp [binOp, Op.shift, Int.not_lt.2 h0, wr, iand, ior, ixor, iandn, ishl, ishr]
  case shr => have h0 := allP_one.1 hob; refine ⟨_, ?_, Ra_int.2 rfl⟩; simp [binOp, Op.shift, Int.not_lt.2 h0, wr, iand, ior, ixor, iandn, ishl, ishr]
  case eql => have e := hshl _ hk (by simp) (by simp); subst e; refine ⟨_, ?_, Ra_bool.2 rfl⟩; simp [binOp, Op.intCmp, ieq, ilt, ile, bne]
  case neq => have e := hshl _ hk (by simp) (by simp); subst e; refine ⟨_, ?_, Ra_bool.2 rfl⟩; simp [binOp, Op.intCmp, ieq, ilt, ile, bne]
  case lss => have e := hshl _ hk (by simp) (by simp); subst e; refine ⟨_, ?_, Ra_bool.2 rfl⟩; simp [binOp, Op.intCmp, ieq, ilt, ile, bne]
  case leq => have e := hshl _ hk (by simp) (by simp); subst e; refine ⟨_, ?_, Ra_bool.2 rfl⟩; simp [binOp, Op.intCmp, ieq, ilt, ile, bne]
  case gtr => have e := hshl _ hk (by simp) (by simp); subst e; refine ⟨_, ?_, Ra_bool.2 rfl⟩; simp [binOp, Op.intCmp, ieq, ilt, ile, bne]
  case geq => have e := hshl _ hk (by simp) (by simp); subst e; refine ⟨_, ?_, Ra_bool.2 rfl⟩; simp [binOp, Op.intCmp, ieq, ilt, ile, bne]

theorem eqGuard_int {op : BinOp} {t : TypeId} {x y : Operand} {k k' : IntKind} {m n : Int} : (eqGuard op t x y (.int k m) (.int k' n)).run P w = .ok () w := by
  unfold eqGuard
  cases op <;> rfl

theorem does_bin (em : Emb Γ S a w) (sp : Spec) (base : Nat) {tx ty : Option Ty} {x y : Operand} {x' y' : Od} {op : BinOp} {b : BOp} (hx : cOd tx x = some x') (hy : cOd ty y = some y') (hop : bopOf op = some b)
    {o : Oper} {xt yt : TypeId} (ho : o.op = .binOp op xt x y yt) (hob : allP (aeff sp base S.T S.H (.bin b x' y')).ob) : Does P Γ S.H w (aeff sp base S.T S.H (.bin b x' y')) ((execOp a.eval o).run P w) := by
  have r1 := cOd_sound em hx
  have r2 := cOd_sound em hy
  rw [aeff] at hob ⊢
  obtain ⟨p, hob⟩ := p1_ob hob
  obtain ⟨q, hob⟩ := p1_ob hob
  have r1 := peel_sound r1 p
  have r2 := peel_sound r2 q
  show Does P Γ S.H w (match asInt (peel (ev S.T x')).2, asInt (peel (ev S.T y')).2 with | some (k, a), some (k', c) => _ | _, _ => _) _
  cases h1 : asInt (peel (ev S.T x')).2 with
  | none => rw [h1] at hob; exact fail_elim hob
  | some u => cases h2 : asInt (peel (ev S.T y')).2 with
    | none => rw [h1, h2] at hob; exact fail_elim hob
    | some v =>
      obtain ⟨k, m⟩ := u
      obtain ⟨k', n⟩ := v
      rw [h1, h2] at hob
      simp only at hob ⊢
      split at hob
      · rename_i hk
        rw [if_pos hk]
        obtain ⟨v, hv, hr⟩ := binI_sound (P := P) (w := w) (Γ := Γ) hop hk hob xt
        refine Does.val em.heap (v := v) ?_ rfl hr
        simp [execOp, ho, asInt_sound h1 r1, asInt_sound h2 r2, eqGuard_int, hv]
      · exact fail_elim hob

theorem does_not (em : Emb Γ S a w) (sp : Spec) (base : Nat) {tx : Option Ty} {x : Operand} {x' : Od} (hx : cOd tx x = some x')
    {o : Oper} {xt : TypeId} (ho : o.op = .unOp .not xt x) (hob : allP (aeff sp base S.T S.H (.not x')).ob) : Does P Γ S.H w (aeff sp base S.T S.H (.not x')) ((execOp a.eval o).run P w) := by
  have r1 := cOd_sound em hx
  rw [aeff] at hob ⊢
  obtain ⟨p, hob⟩ := p1_ob hob
  have r1 := peel_sound r1 p
  show Does P Γ S.H w (match asBool (peel (ev S.T x')).2 with | some b => _ | none => _) _
  cases h1 : asBool (peel (ev S.T x')).2 with
  | none => rw [h1] at hob; exact fail_elim hob
  | some b =>
    refine Does.val em.heap (v := .bool (!b)) ?_ rfl (Ra_bool.2 rfl)
    simp [execOp, ho, asBool_sound h1 r1, Op.unary]

theorem does_neg (em : Emb Γ S a w) (sp : Spec) (base : Nat) {tx : Option Ty} {x : Operand} {x' : Od} (hx : cOd tx x = some x')
    {o : Oper} {xt : TypeId} (ho : o.op = .unOp .neg xt x) (hob : allP (aeff sp base S.T S.H (.neg x')).ob) : Does P Γ S.H w (aeff sp base S.T S.H (.neg x')) ((execOp a.eval o).run P w) := by
  have r1 := cOd_sound em hx
  rw [aeff] at hob ⊢
  obtain ⟨p, hob⟩ := p1_ob hob
  have r1 := peel_sound r1 p
  show Does P Γ S.H w (match asInt (peel (ev S.T x')).2 with | some (k, n) => _ | none => _) _
  cases h1 : asInt (peel (ev S.T x')).2 with
  | none => rw [h1] at hob; exact fail_elim hob
  | some u =>
    obtain ⟨k, n⟩ := u
    refine Does.val em.heap (v := .int k (wr k (0 - n))) ?_ rfl (Ra_int.2 rfl)
    simp [execOp, ho, asInt_sound h1 r1, Op.unary, Op.intArith, wr]

theorem does_conv (em : Emb Γ S a w) (sp : Spec) (base : Nat) {tx : Option Ty} {x : Operand} {x' : Od} (hx : cOd tx x = some x')
    {o : Oper} {s d : TypeId} {ks kd : IntKind} (hs : P.underlying s = some (.int ks)) (hd : P.underlying d = some (.int kd)) (ho : o.op = .convert s d x)
    (hob : allP (aeff sp base S.T S.H (.conv kd x')).ob) : Does P Γ S.H w (aeff sp base S.T S.H (.conv kd x')) ((execOp a.eval o).run P w) := by
  have r1 := cOd_sound em hx
  rw [aeff] at hob ⊢
  obtain ⟨p, hob⟩ := p1_ob hob
  have r1 := peel_sound r1 p
  show Does P Γ S.H w (match asInt (peel (ev S.T x')).2 with | some (_, n) => _ | none => _) _
  cases h1 : asInt (peel (ev S.T x')).2 with
  | none => rw [h1] at hob; exact fail_elim hob
  | some u =>
    obtain ⟨k, n⟩ := u
    refine Does.val em.heap (v := .int kd (wr kd n)) ?_ rfl (Ra_int.2 rfl)
    simp [execOp, ho, asInt_sound h1 r1, convert, run_underlying hs, run_underlying hd, Conv.intToInt, wr]

end
end Go.Ab
