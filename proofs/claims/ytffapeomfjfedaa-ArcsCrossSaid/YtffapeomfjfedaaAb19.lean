/- Soundness, sixteenth part: one guarded operation as a step of a region. -/
import Derived.Test.YtffapeomfjfedaaAb18
import Derived.Orders
set_option linter.unusedVariables false
set_option linter.unusedSimpArgs false
namespace Go.Ab

section
variable {P : Program} {Γ : Cx} {H : List Hs} {w : World} {S : St} {a : Act}

theorem setT_length {T : List AV} {d : Option Nat} {v : AV} : (setT T d v).length = T.length := by cases d <;> simp [setT]

theorem put_size {a : Act} {d : Option Nat} {v : Value} : (a.put d v).tmps.size = a.tmps.size := by cases d <;> simp [Act.put]

theorem put_defers {a : Act} {d : Option Nat} {v : Value} : (a.put d v).defers = a.defers := by cases d <;> rfl

/-- The state after a value has been put. -/
theorem Emb.put (em : Emb Γ S a w) {Γ' : Cx} {H' : List Hs} {w' : World} {d : Option Nat} {x : AV} {v : Value} (hx : Ext Γ S.H w Γ' H' w') (he : EmbH Γ' H' w') (hr : Ra w' Γ' x v) : Emb Γ' ⟨setT S.T d x, H'⟩ (a.put d v) w' := by
  have hmono : ∀ (y : AV) (u : Value), Ra w Γ y u → Ra w' Γ' y u := fun y u h => Rp.mono hx.mi (em.heap.keepI hx) hx.al y [u] h
  refine ⟨by rw [put_defers]; exact em.defers, by rw [put_size, setT_length]; exact em.size, fun i y hy => ?_, he⟩
  cases d with
  | none =>
    obtain ⟨u, h1, h2⟩ := em.tmp i y hy
    exact ⟨u, h1, hmono _ _ h2⟩
  | some d =>
    simp only [setT, List.getElem?_set] at hy
    simp only [Act.put]
    split at hy
    · rename_i hdi
      subst hdi
      split at hy
      · rename_i hlt
        cases hy
        refine ⟨v, ?_, hr⟩
        rw [Array.getElem?_setIfInBounds_self_of_lt (by rw [em.size]; exact hlt)]
      · cases hy
    · rename_i hdi
      obtain ⟨u, h1, h2⟩ := em.tmp i y hy
      exact ⟨u, by rw [Array.getElem?_setIfInBounds_ne hdi]; exact h1, hmono _ _ h2⟩

/-- One operation's rule. -/
theorem Does.wp {Q : Exit → Act → World → Prop} {K : Act → World → Prop} {e : Ef} {o : Oper} (h : Does P Γ S.H w e ((execOp a.eval o).run P w))
    (hk : ∀ (Γ' : Cx) (w' : World) (v : Value), Ext Γ S.H w Γ' (putUp S.H e.up) w' → EmbH Γ' (putUp S.H e.up) w' → Ra w' Γ' e.v v → K (a.put o.dst v) w') : o.wp P a w K Q := by
  unfold Oper.wp
  rcases h with ⟨v, w', Γ', h | ⟨h, hv⟩, hx, he, hr⟩ | ⟨f, args, h, hc⟩
  · rw [h]; exact hk Γ' w' v hx he hr
  · rw [h]; subst hv; exact hk Γ' w' _ hx he hr
  · rw [h]
    refine Calls.mono hc fun en w' hen => ?_
    obtain ⟨v, Γ', rfl, hx, he, hr⟩ := hen
    exact hk Γ' w' v hx he hr

theorem getD_some {T : List AV} {d : Nat} (h : T.getD d .undef ≠ .undef) : T[d]? = some (T.getD d .undef) := by
  rw [getD_eq] at h ⊢
  cases ht : T[d]? with
  | none => rw [ht] at h; exact absurd rfl h
  | some x => rfl

theorem peel_not_undef {x : AV} {p : List Prop} {t : Ty} {y : Den t} (h : peel x = (p, .val t y)) : x ≠ .undef := by
  rintro rfl; simp [peel] at h

/-- What an effect that was reckoned elsewhere has to do with an operation here. -/
def GRel (sp : Spec) (base : Nat) (S : St) (o : AOp) (e : Ef) : Prop :=
  match o.g with
  | none => allP (aeff sp base S.T S.H o.op).ob ∧ e.v = (aeff sp base S.T S.H o.op).v ∧ e.up = (aeff sp base S.T S.H o.op).up
  | some (d, want) => ∃ (p : List Prop) (x : Bool) (y : AV), peel (S.T.getD d .undef) = (p, .val .bool x) ∧ allP p ∧ e.up = [] ∧ e.v = .gd (if want then x else !x) y ∧
      ((if want then x else !x) = true → (aeff sp base S.T S.H o.op).up = [] ∧ allP (aeff sp base S.T S.H o.op).ob ∧ y = (aeff sp base S.T S.H o.op).v)

theorem geff_rel {sp : Spec} {base : Nat} {o : AOp} (hob : allP (geff sp base S.T S.H o).ob) : GRel sp base S o (geff sp base S.T S.H o) := by
  obtain ⟨dst, op, g⟩ := o
  cases g with
  | none => exact ⟨hob, rfl, rfl⟩
  | some dw =>
    obtain ⟨d, want⟩ := dw
    simp only [geff, GRel] at hob ⊢
    cases hp : peel (S.T.getD d .undef) with
    | mk p y =>
      rw [hp] at hob
      cases y with
      | val t x =>
        cases t with
        | bool =>
          change Bool at x
          simp only at hob ⊢
          cases hup : (aeff sp base S.T S.H op).up with
          | cons _ _ => rw [hup] at hob; exact fail_elim hob
          | nil =>
            rw [hup] at hob
            simp only at hob ⊢
            obtain ⟨h1, h2⟩ := allP_app.1 hob
            exact ⟨p, x, (aeff sp base S.T S.H op).v, by first | trivial | rfl | simp, h1, by first | trivial | rfl | simp, by first | trivial | rfl | simp, fun h => ⟨by first | trivial | rfl | simp, impP_iff.1 h2 h, by first | trivial | rfl | simp⟩⟩
        | _ => exact fail_elim hob
      | _ => exact fail_elim hob

/-- A guarded operation, done or left out. -/
theorem grel_step (em : Emb Γ S a w) {sp : Spec} (hsp : SpecOk P sp) (base : Nat) {ms : List Nat} {ops : Array Oper} {i : Nat} {o : Oper} (hi : ops[i]? = some o) {k : Nat} {ao : AO} {g : Option (Nat × Bool)} (h : cOp P ms o k = some ao) (hg : cGuard ops o.guard = some g)
    {e : Ef} (hrel : GRel sp base S ⟨o.dst, ao, g⟩ e) {Q : Exit → Act → World → Prop} {K : Act → World → Prop}
    (hk : ∀ (Γ' : Cx) (a' : Act) (w' : World), Ext Γ S.H w Γ' (putUp S.H e.up) w' → Emb Γ' ⟨setT S.T o.dst e.v, putUp S.H e.up⟩ a' w' → K a' w') :
    wpOp P ops Q i K a w := by
  unfold wpOp
  rw [hi]
  simp only
  cases hgo : o.guard with
  | none =>
    rw [hgo] at hg
    simp only [cGuard, Option.some.injEq] at hg
    subst hg
    have hw : Region.wanted o (yielded ops a.tmps) = true := by simp [Region.wanted, hgo]
    rw [if_pos hw]
    obtain ⟨h1, h2, h3⟩ := hrel
    refine .inl (Does.wp (cOp_does em hsp base h h1) fun Γ' w' v hx he hr => hk Γ' _ w' ?_ (em.put ?_ ?_ ?_))
    · rw [h3]; exact hx
    · rw [h3]; exact hx
    · rw [h3]; exact he
    · rw [h2]; exact hr
  | some jw =>
    obtain ⟨j, want⟩ := jw
    rw [hgo] at hg
    simp only [cGuard] at hg
    split at hg
    · rename_i d hd
      cases hg
      obtain ⟨p, x, y, hp, h1, hup, hev, h2⟩ := hrel
      rw [hup, hev] at hk
      obtain ⟨v, hv, hr⟩ := em.tmp d _ (getD_some (peel_not_undef hp))
      have hr := peel_sound hr (by rw [hp]; exact h1)
      rw [hp] at hr
      have hvb := Ra_bool.1 hr
      subst hvb
      have hy : yielded ops a.tmps j = some x := by
        simp only [yielded, hd, Option.bind_some, hv]; try rfl
      by_cases hc : x = want
      · have hw : Region.wanted o (yielded ops a.tmps) = true := by simp [Region.wanted, hgo, hy, hc]
        have hc' : (if want = true then x else !x) = true := by subst hc; cases x <;> rfl
        rw [if_pos hw]
        obtain ⟨g1, g2, g3⟩ := h2 hc'
        have hdo := cOp_does em hsp base h g2
        refine .inl (Does.wp hdo fun Γ' w' v hx he hr => hk Γ' _ w' ?_ ?_)
        · rw [g1] at hx; exact hx
        · rw [g1] at hx he
          refine em.put hx he ?_
          simp only [Ra, Rp]
          exact ⟨⟨v, rfl⟩, fun _ => by rw [g3]; exact hr⟩
      · have hw : ¬ Region.wanted o (yielded ops a.tmps) = true := by simp [Region.wanted, hgo, hy, hc]
        have hc' : (if want = true then x else !x) = false := by cases x <;> cases want <;> simp at hc ⊢
        rw [if_neg hw]
        refine hk Γ _ w (Ext.refl _ _ _) (em.put (Ext.refl _ _ _) em.heap ?_)
        simp only [Ra, Rp, hc']
        exact ⟨⟨_, rfl⟩, fun h => by cases h⟩
    · cases hg

/-! ### Regions -/

structure Inf where
  i : Nat
  dst : Option Nat
  uses : List Nat
  rd : List Nat
  ups : List Nat

def Od.use : Od → List Nat
  | .t n => [n]
  | .k _ => []

def optUse : Option Od → List Nat
  | none => []
  | some x => x.use

def AO.use : AO → List Nat
  | .mv x | .not x | .neg x | .load _ x | .box _ _ x | .nilc x | .fld _ _ x | .fldv _ _ x | .ext x _ | .len x | .conv _ x => x.use
  | .pick c a b => c.use ++ a.use ++ b.use
  | .bin _ x y | .eqv _ _ x y | .store _ x y | .ixs _ x y | .ixa _ _ x y | .ixv _ _ x y | .append _ _ _ x y => x.use ++ y.use
  | .build _ _ ps => ps.flatMap fun p => p.2.2.use
  | .alloc .. => []
  | .slc _ x lo hi mx => x.use ++ optUse lo ++ optUse hi ++ optUse mx
  | .sla _ _ x lo hi => x.use ++ optUse lo ++ optUse hi
  | .call _ l | .mkfn _ l | .bslice _ l | .bslicem _ _ l => l.flatMap Od.use
  | .callv g l => g.use ++ l.flatMap Od.use
  | .mm _ x l => x.use ++ l.flatMap Od.use
  | .lookup _ _ _ x i _ => x.use ++ i.use
  | .mapup _ _ m k v => m.use ++ k.use ++ v.use
  | .mkmap .. => []
  | .mkslice _ _ _ _ n c => n.use ++ c.use

def AOp.use (o : AOp) : List Nat := o.op.use ++ (match o.g with | some (d, _) => [d] | none => [])

def St.step (S : St) (d : Option Nat) (e : Ef) : St := ⟨setT S.T d e.v, putUp S.H e.up⟩

def infOf (i : Nat) (o : AOp) (e : Ef) : Inf := ⟨i, o.dst, o.use, e.rd, e.up.map (·.1)⟩

structure RR where
  ob : List Prop
  S : St
  inf : List Inf

/-- In the order of the text. -/
noncomputable def runL (sp : Spec) (base : Nat) : Nat → List AOp → St → RR
  | _, [], S => ⟨[], S, []⟩
  | i, o :: os, S =>
    match geff sp base S.T S.H o with
    | e => match runL sp base (i + 1) os (S.step o.dst e) with
      | r => ⟨e.ob ++ r.ob, r.S, infOf i o e :: r.inf⟩

theorem runL_nil {sp : Spec} {base i : Nat} : runL sp base i [] S = ⟨[], S, []⟩ := rfl
theorem runL_cons {sp : Spec} {base i : Nat} {o : AOp} {os : List AOp} : runL sp base i (o :: os) S =
    ⟨(geff sp base S.T S.H o).ob ++ (runL sp base (i + 1) os (S.step o.dst (geff sp base S.T S.H o))).ob, (runL sp base (i + 1) os (S.step o.dst (geff sp base S.T S.H o))).S, infOf i o (geff sp base S.T S.H o) :: (runL sp base (i + 1) os (S.step o.dst (geff sp base S.T S.H o))).inf⟩ := rfl

/-- Operation by operation. -/
theorem cReg_cons {ms : List Nat} {all : Array Oper} {o : Oper} {os : List Oper} {k m : Nat} {l : List AOp} (h : cReg P ms all (o :: os) k = some (l, m)) :
    ∃ ao g l', l = ⟨o.dst, ao, g⟩ :: l' ∧ cOp P ms o k = some ao ∧ cGuard all o.guard = some g ∧ cReg P ms all os (k + ao.na) = some (l', m) := by
  simp only [cReg] at h
  split at h
  · rename_i ao g h1 h2
    split at h
    · rename_i l' m' h3
      cases h
      exact ⟨ao, g, l', rfl, h1, h2, h3⟩
    · cases h
  · cases h

theorem seq_sound {sp : Spec} (hsp : SpecOk P sp) (base : Nat) {ms : List Nat} {ops : Array Oper} {Q : Exit → Act → World → Prop} : ∀ (n i k m : Nat) (l : List AOp), i + n = ops.size → cReg P ms ops (ops.toList.drop i) k = some (l, m) →
    ∀ (j : Nat) (Γ : Cx) (S : St) (a : Act) (w : World), Emb Γ S a w → allP (runL sp base j l S).ob →
      (∀ Γ' a' w', Ext Γ S.H w Γ' (runL sp base j l S).S.H w' → Emb Γ' (runL sp base j l S).S a' w' → Q .normal a' w') → wpOps P ops Q (List.range' i n) a w
  | 0, i, k, m, l, hi, hc, j, Γ, S, a, w, em, hob, hq => by
    have : ops.toList.drop i = [] := by rw [List.drop_eq_nil_iff]; simp; omega
    rw [this] at hc
    simp only [cReg, Option.some.injEq, Prod.mk.injEq] at hc
    obtain ⟨rfl, _⟩ := hc
    exact hq Γ a w (Ext.refl _ _ _) em
  | n + 1, i, k, m, l, hi, hc, j, Γ, S, a, w, em, hob, hq => by
    have hlt : i < ops.size := by omega
    have hd : ops.toList.drop i = ops[i] :: ops.toList.drop (i + 1) := by rw [List.drop_eq_getElem_cons (by simpa using hlt)]; simp
    rw [hd] at hc
    obtain ⟨ao, g, l', rfl, h1, h2, h3⟩ := cReg_cons hc
    rw [runL_cons] at hob hq
    obtain ⟨o1, o2⟩ := allP_app.1 hob
    rw [List.range'_succ, wpOps_cons]
    refine grel_step em hsp base (Array.getElem?_eq_getElem hlt) h1 h2 (geff_rel o1) fun Γ' a' w' hx em' => ?_
    exact seq_sound hsp base n (i + 1) _ m l' (by omega) h3 (j + 1) Γ' _ a' w' em' o2 fun Γ'' a'' w'' hx' em'' => hq Γ'' a'' w'' (hx.trans hx') em''

end
end Go.Ab
