/- What an operation's effect depends on: the slots it uses, the blocks it reads and writes. -/
import Derived.Test.YtffapeomfjfedaaAb19
set_option linter.unusedVariables false
set_option linter.unusedSimpArgs false
namespace Go.Ab

def Eqs (T T' : List AV) (l : List Nat) : Prop := ∀ n ∈ l, T.getD n .undef = T'.getD n .undef

section
variable {T T' : List AV}

theorem Eqs.left {l m : List Nat} (h : Eqs T T' (l ++ m)) : Eqs T T' l := fun n hn => h n (List.mem_append_left _ hn)
theorem Eqs.right {l m : List Nat} (h : Eqs T T' (l ++ m)) : Eqs T T' m := fun n hn => h n (List.mem_append_right _ hn)

theorem ev_use {x : Od} (h : Eqs T T' x.use) : ev T x = ev T' x := by
  cases x with
  | t n => exact h n (by simp [Od.use])
  | k a => rfl

theorem optI_use {x : Option Od} (h : Eqs T T' (optUse x)) : optI T x = optI T' x := by
  cases x with
  | none => rfl
  | some x => simp only [optI, ev_use h]

theorem map_use : ∀ {l : List Od}, Eqs T T' (l.flatMap Od.use) → l.map (ev T) = l.map (ev T')
  | [], _ => rfl
  | x :: l, h => by
    rw [List.flatMap_cons] at h
    rw [List.map_cons, List.map_cons, ev_use h.left, map_use h.right]

theorem bsList_use {te : Ty} : ∀ {l : List Od}, Eqs T T' (l.flatMap Od.use) → bsList te T l = bsList te T' l
  | [], _ => rfl
  | x :: l, h => by
    rw [List.flatMap_cons] at h
    simp only [bsList, ev_use h.left, bsList_use h.right]

theorem mmAll_use {mx : Bool} {k : IntKind} : ∀ {l : List Od} {a : Int}, Eqs T T' (l.flatMap Od.use) → mmAll mx k T a l = mmAll mx k T' a l
  | [], _, _ => rfl
  | x :: l, a, h => by
    rw [List.flatMap_cons] at h
    simp only [mmAll, ev_use h.left, mmAll_use h.right]

theorem buildCells_use : ∀ {ps : List (Nat × Ty × Od)} {z : List AV}, Eqs T T' (ps.flatMap fun p => p.2.2.use) → buildCells T z ps = buildCells T' z ps
  | [], _, _ => rfl
  | (off, te, x) :: ps, z, h => by
    rw [List.flatMap_cons] at h
    simp only [buildCells, ev_use h.left]
    split
    · split
      · exact buildCells_use h.right
      · rfl
    · rfl

theorem aeff_use {sp : Spec} {base : Nat} {H : List Hs} {op : AO} (h : Eqs T T' op.use) : aeff sp base T H op = aeff sp base T' H op := by
  cases op <;> simp only [AO.use] at h
  case mv x => rw [aeff, aeff, ev_use h]
  case pick c a b => rw [aeff, aeff, ev_use h.left.left, ev_use h.left.right, ev_use h.right]
  case bin op x y => rw [aeff, aeff, ev_use h.left, ev_use h.right]
  case eqv n t x y => rw [aeff, aeff, ev_use h.left, ev_use h.right]
  case not x => rw [aeff, aeff, ev_use h]
  case neg x => rw [aeff, aeff, ev_use h]
  case build t z ps => rw [aeff, aeff, buildCells_use h]
  case load t x => rw [aeff, aeff, ev_use h]
  case store t x v => rw [aeff, aeff, ev_use h.left, ev_use h.right]
  case alloc k B => rw [aeff, aeff]
  case box k t x => rw [aeff, aeff, ev_use h]
  case nilc x => rw [aeff, aeff, ev_use h]
  case fld off te x => rw [aeff, aeff, ev_use h]
  case fldv off te x => rw [aeff, aeff, ev_use h]
  case ixs te x i => rw [aeff, aeff, ev_use h.left, ev_use h.right]
  case ixa n te x i => rw [aeff, aeff, ev_use h.left, ev_use h.right]
  case ixv n te x i => rw [aeff, aeff, ev_use h.left, ev_use h.right]
  case slc te x lo hi mx => rw [aeff, aeff, ev_use h.left.left.left, optI_use h.left.left.right, optI_use h.left.right, optI_use h.right]
  case sla n te x lo hi => rw [aeff, aeff, ev_use h.left.left, optI_use h.left.right, optI_use h.right]
  case ext x i => rw [aeff, aeff, ev_use h]
  case call f l => rw [aeff, aeff, map_use h]
  case callv g l => rw [aeff, aeff, ev_use h.left, map_use h.right]
  case len x => rw [aeff, aeff, ev_use h]
  case mm mx x l => rw [aeff, aeff, ev_use h.left]; simp only [mmAll_use h.right]
  case conv k x => rw [aeff, aeff, ev_use h]
  case mkfn f l => rw [aeff, aeff, map_use h]
  case bslice te l => rw [aeff, aeff, bsList_use h]
  case bslicem k te l => rw [aeff, aeff, bsList_use h]
  case append k te b x y => rw [aeff, aeff, ev_use h.left, ev_use h.right]
  case lookup kt vt d x i ok => rw [aeff, aeff, ev_use h.left, ev_use h.right]
  case mapup kt vt m k v => rw [aeff, aeff, ev_use h.left.left, ev_use h.left.right, ev_use h.right]
  case mkmap k kt vt => rw [aeff, aeff]
  case mkslice k te z b n c => rw [aeff, aeff, ev_use h.left, ev_use h.right]

theorem geff_use {sp : Spec} {base : Nat} {H : List Hs} {o : AOp} (h : Eqs T T' o.use) : geff sp base T H o = geff sp base T' H o := by
  obtain ⟨dst, op, g⟩ := o
  have h1 := aeff_use (sp := sp) (base := base) (H := H) h.left
  cases g with
  | none => exact h1
  | some dw =>
    obtain ⟨d, want⟩ := dw
    have h2 := h.right d (by simp)
    simp only at h1
    simp only [geff, h1, h2]
end

/-! ### The heap -/

def Ef.sim (e e' : Ef) : Prop := e'.ob = e.ob ∧ e'.v = e.v ∧ e'.up = e.up

def AgreeOn (H H' : List Hs) (e : Ef) : Prop := (∀ b ∈ e.rd, H'[b]? = H[b]?) ∧ ∀ p ∈ e.up, H'[p.1]? = H[p.1]?

/-- A contract's effect depends on what it says it reads and writes. -/
def SpecFrame (sp : Spec) : Prop := ∀ (f : FuncId) (H H' : List Hs) (base : Nat) (args : List AV), allP (sp f H base args).ob → AgreeOn H H' (sp f H base args) → Ef.sim (sp f H base args) (sp f H' base args)

section
variable {H H' : List Hs}

theorem Ef.sim.refl (e : Ef) : Ef.sim e e := ⟨rfl, rfl, rfl⟩

theorem hget_congr {b : Nat} (h : H'[b]? = H[b]?) : hget H' b = hget H b := by simp only [hget, h]
theorem isFree_congr {b : Nat} (h : H'[b]? = H[b]?) : isFree H' b = isFree H b := by simp only [isFree, h]

theorem AgreeOn.up {e : Ef} (h : AgreeOn H H' e) {k : Nat} (hm : k ∈ e.up.map (·.1)) : H'[k]? = H[k]? := by
  obtain ⟨p, hp, rfl⟩ := List.mem_map.1 hm
  exact h.2 p hp

def Lives (H H' : List Hs) : Prop := ∀ b B, hget H b = some B → hget H' b = some B

theorem Lives.cellsAt (h : Lives H H') {b j n : Nat} {vs : List AV} (hc : cellsAt H b j n = some vs) : cellsAt H' b j n = some vs := by
  unfold Ab.cellsAt at hc ⊢
  split at hc
  · rename_i vs hb; rw [h _ _ hb]; exact hc
  · cases hc

theorem Lives.arrElems (h : Lives H H') {e : Ty} {b s : Nat} {ys : List (Den e)} (hc : arrElems H e b s = some ys) : arrElems H' e b s = some ys := by
  unfold Ab.arrElems at hc ⊢
  split at hc
  · rename_i hb; rw [h _ _ hb]; exact hc
  · cases hc

theorem Lives.arrAt (h : Lives H H') {e : Ty} {b s i o : Nat} {r : List Prop × Den e} (hc : arrAt H e b s i o = some r) : arrAt H' e b s i o = some r := by
  unfold Ab.arrAt at hc ⊢
  split at hc
  · rename_i hb; rw [h _ _ hb]; exact hc
  · cases hc

theorem cellsAt_arr {b j n : Nat} {vs : List AV} (hc : cellsAt H b j n = some vs) : ∃ us, hget H b = some (.cells us) := by
  unfold Ab.cellsAt at hc
  split at hc
  · rename_i us hb; exact ⟨us, hb⟩
  · cases hc

theorem arrAt_arr {e : Ty} {b s i o : Nat} {r : List Prop × Den e} (hc : arrAt H e b s i o = some r) : ∃ te xs opn, hget H b = some (.arr te xs opn) := by
  unfold Ab.arrAt at hc
  split at hc
  · rename_i hb; exact ⟨_, _, _, hb⟩
  · cases hc

theorem cellsAt_none {b j n : Nat} {te : Ty} {xs : List (Den te)} {opn : Bool} (h : hget H b = some (.arr te xs opn)) : cellsAt H b j n = none := by
  simp only [Ab.cellsAt, h]

theorem rv_mono (h : Lives H H') : ∀ (t : Ty) (cs : List AV) (r : List Prop × Den t), rv H t cs = some r → rv H' t cs = some r
  | .unit, cs, r, hr => by simpa only [rv] using hr
  | .prod a b, cs, r, hr => by
    simp only [rv] at hr ⊢
    split at hr
    · rename_i p x q y h1 h2
      rw [rv_mono h a _ _ h1, rv_mono h b _ _ h2]; exact hr
    · cases hr
  | .slice e, cs, r, hr => by
    simp only [rv] at hr ⊢
    split at hr
    · exact hr
    · exact hr
    · rename_i b s i len c
      try dsimp only at hr ⊢
      split at hr
      · rename_i ys hy; rw [h.arrElems hy]; exact hr
      · cases hr
    · cases hr
  | .optr e, cs, r, hr => by
    simp only [rv] at hr ⊢
    split at hr
    · exact hr
    · rename_i b s i o
      try dsimp only at hr ⊢
      split at hr
      · rename_i vs hv
        rw [h.cellsAt hv]
        cases hx : rv H e vs with
        | none => rw [hx] at hr; cases hr
        | some r' => rw [hx] at hr; simp only [rv_mono h e _ _ hx]; exact hr
      · rename_i hn
        cases hx : arrAt H e b s i o with
        | none => rw [hx] at hr; cases hr
        | some r' =>
          obtain ⟨te, xs, opn, hb⟩ := arrAt_arr hx
          rw [hx] at hr
          simp only [cellsAt_none (h _ _ hb), h.arrAt hx]
          exact hr
    · cases hr
  | .ptr e, cs, r, hr => by
    simp only [rv] at hr ⊢
    split at hr
    · exact hr
    · rename_i b s i o
      try dsimp only at hr ⊢
      split at hr
      · rename_i vs hv
        rw [h.cellsAt hv]
        exact rv_mono h e _ _ hr
      · rename_i hn
        obtain ⟨te, xs, opn, hb⟩ := arrAt_arr hr
        simp only [cellsAt_none (h _ _ hb)]
        exact h.arrAt hr
    · cases hr
  | .map k v, cs, r, hr => by
    simp only [rv] at hr ⊢
    split at hr
    · exact hr
    · rename_i b
      try dsimp only at hr ⊢
      split at hr
      · rename_i k' v' es hb; rw [h _ _ hb]; exact hr
      · cases hr
    · cases hr
  | .int k, cs, r, hr => by simpa only [rv] using hr
  | .bool, cs, r, hr => by simpa only [rv] using hr
  | .oth, cs, r, hr => by simpa only [rv] using hr

theorem mem_liveFrom : ∀ {H : List Hs} {n b : Nat} {B : Blk}, H[b]? = some (.live B) → n + b ∈ liveFrom n H
  | .live B :: H, n, 0, _, _ => by simp [liveFrom]
  | .live B :: H, n, b + 1, _, h => by
    rw [liveFrom, show n + (b + 1) = (n + 1) + b by omega]
    exact List.mem_cons_of_mem _ (mem_liveFrom (by simpa using h))
  | .free :: H, n, b + 1, _, h => by
    rw [show n + (b + 1) = (n + 1) + b by omega]
    exact mem_liveFrom (n := n + 1) (H := H) (by simpa using h)
  | .dead :: H, n, b + 1, _, h => by
    rw [show n + (b + 1) = (n + 1) + b by omega]
    exact mem_liveFrom (n := n + 1) (H := H) (by simpa using h)

theorem lives_of {l : List Nat} (hl : l = liveFrom 0 H) (h : ∀ b ∈ l, H'[b]? = H[b]?) : Lives H H' := fun b B hb => by
  have h1 := hget_eq hb
  have h2 := h b (by rw [hl]; simpa using mem_liveFrom (n := 0) h1)
  rw [hget_congr h2]; exact hb

theorem aeff_frame {sp : Spec} (hsp : SpecFrame sp) {base : Nat} {T : List AV} {op : AO} (hob : allP (aeff sp base T H op).ob) (ha : AgreeOn H H' (aeff sp base T H op)) : Ef.sim (aeff sp base T H op) (aeff sp base T H' op) := by
  cases op
  case load t x =>
    rw [aeff] at hob ha ⊢
    rw [aeff]
    have hob := (p1_ob hob).2
    revert hob ha
    dsimp only [p1]
    generalize (peel (ev T x)).2 = X
    intro ha hob
    cases X with
    | ref b s i o =>
      have key : hget H' b = hget H b := by
        revert ha hob
        simp only
        (repeat' split) <;> intro ha hob <;> first | exact fail_elim hob | exact hget_congr (ha.1 b (by simp))
      simp only [key]
      exact ⟨rfl, rfl, rfl⟩
    | val t y => cases t <;> exact ⟨rfl, rfl, rfl⟩
    | _ => exact ⟨rfl, rfl, rfl⟩
  case store t x v =>
    rw [aeff] at hob ha ⊢
    rw [aeff]
    have hob := (p1_ob hob).2
    revert hob ha
    dsimp only [p1]
    generalize (peel (ev T x)).2 = X
    intro ha hob
    cases X with
    | ref b s i o =>
      have hob := (allP_app.1 hob).2
      have key : hget H' b = hget H b := by
        revert ha hob
        simp only
        (repeat' split) <;> intro ha hob <;> first | exact fail_elim hob | exact hget_congr (ha.1 b (by simp))
      simp only [key]
      exact ⟨rfl, rfl, rfl⟩
    | val t y => cases t <;> exact ⟨rfl, rfl, rfl⟩
    | _ => exact ⟨rfl, rfl, rfl⟩
  case alloc k B =>
    rw [aeff] at hob ha ⊢
    rw [aeff]
    have key : isFree H' (base + k) = isFree H (base + k) := by
      revert ha hob
      (repeat' split) <;> intro hob ha <;> first | exact fail_elim hob | exact isFree_congr (ha.up (by simp))
    rw [key]
    exact Ef.sim.refl _
  case mkmap k kt vt =>
    rw [aeff] at hob ha ⊢
    rw [aeff]
    have key : isFree H' (base + k) = isFree H (base + k) := by
      revert ha hob
      (repeat' split) <;> intro hob ha <;> first | exact fail_elim hob | exact isFree_congr (ha.up (by simp))
    rw [key]
    exact Ef.sim.refl _
  case box k t x =>
    rw [aeff] at hob ha ⊢
    rw [aeff]
    have hob := (p1_ob hob).2
    have key : isFree H' (base + k) = isFree H (base + k) := by
      revert ha hob
      dsimp only [p1]
      (repeat' split) <;> intro ha hob <;> first | exact fail_elim hob | exact isFree_congr (ha.up (by simp))
    rw [key]
    exact Ef.sim.refl _
  case bslicem k te l =>
    rw [aeff] at hob ha ⊢
    rw [aeff]
    have key : isFree H' (base + k) = isFree H (base + k) := by
      revert ha hob
      (repeat' split) <;> intro hob ha <;> first | exact fail_elim hob | exact isFree_congr (ha.up (by simp))
    rw [key]
    exact Ef.sim.refl _
  case mkslice k te z b n c =>
    rw [aeff] at hob ha ⊢
    rw [aeff]
    have hob := (p1_ob (p1_ob hob).2).2
    have key : isFree H' (base + k) = isFree H (base + k) := by
      revert ha hob
      dsimp only [p1]
      (repeat' split) <;> intro ha hob <;> first | exact fail_elim hob | exact isFree_congr (ha.up (by simp))
    rw [key]
    exact Ef.sim.refl _
  case call f l =>
    rw [aeff] at hob ha ⊢
    rw [aeff]
    have hob := (allP_app.1 hob).2
    obtain ⟨h1, h2, h3⟩ := hsp f H H' base _ hob ha
    exact ⟨by simp only [Ef.add, h1], h2, h3⟩
  case callv g l =>
    rw [aeff] at hob ha ⊢
    rw [aeff]
    have hob := (p1_ob hob).2
    revert hob ha
    dsimp only [p1]
    generalize (peel (ev T g)).2 = X
    intro ha hob
    cases X with
    | fn f caps =>
      simp only at ha hob ⊢
      by_cases hl : isL caps = true
      · rw [if_pos hl] at hob ha ⊢
        rw [if_pos hl]
        have hob := (allP_app.1 hob).2
        obtain ⟨h1, h2, h3⟩ := hsp f H H' base _ hob ha
        exact ⟨by simp only [Ef.add, h1], h2, h3⟩
      · rw [if_neg hl] at hob; exact fail_elim hob
    | _ => exact ⟨rfl, rfl, rfl⟩
  case append k te bytes x y =>
    rw [aeff] at hob ha ⊢
    rw [aeff]
    have hob := (p1_ob hob).2
    revert hob ha
    dsimp only [p1]
    generalize (peel (ev T x)).2 = X
    generalize (peel (ev T y)).2 = Y
    intro ha hob
    have key : Lives H H' ∧ isFree H' (base + k) = isFree H (base + k) := by
      revert ha hob
      (repeat' split) <;> intro ha hob <;> first
        | exact fail_elim hob
        | exact fail_elim (allP_app.1 hob).2
        | exact ⟨lives_of rfl ha.1, isFree_congr (ha.up (by simp))⟩
    obtain ⟨k1, k2⟩ := key
    cases hr : rvL H te Y with
    | none => rw [hr] at hob; exact fail_elim hob
    | some u =>
      have hr' : rvL H' te Y = some u := rv_mono k1 _ _ _ hr
      rw [hr] at hob
      rw [hr']
      obtain ⟨q, ys⟩ := u
      simp only at hob ⊢
      cases X with
      | sl b s i len c =>
        have hob := (allP_app.1 hob).2
        simp only at hob ⊢
        cases hg : hget H b with
        | none => rw [hg] at hob; exact fail_elim hob
        | some B =>
          rw [k1 _ _ hg]
          simp only [k2]
          (repeat' split) <;> exact ⟨rfl, rfl, rfl⟩
      | vsl t xs c =>
        simp only [k2]
        (repeat' split) <;> exact ⟨rfl, rfl, rfl⟩
      | _ => exact ⟨rfl, rfl, rfl⟩
  case lookup kt vt d x i ok =>
    rw [aeff] at hob ha ⊢
    rw [aeff]
    have hob := (p1_ob hob).2
    revert hob ha
    dsimp only [p1]
    generalize (peel (ev T x)).2 = X
    generalize (peel (ev T i)).2 = I
    intro ha hob
    cases hI : asD kt I with
    | none => rw [hI] at hob; exact fail_elim hob
    | some key =>
      rw [hI] at hob ha
      by_cases he : eqable kt = true
      · simp only [he, if_true] at hob ha ⊢
        have hob := (allP_app.1 hob).2
        cases X with
        | mref b =>
          have key : hget H' b = hget H b := by
            revert ha hob
            simp only [asD]
            (repeat' split) <;> intro ha hob <;> first
              | exact fail_elim hob
              | exact hget_congr (ha.1 b (by simp))
          simp only [key]
          exact Ef.sim.refl _
        | _ => exact ⟨rfl, rfl, rfl⟩
      · simp only [he, if_false] at hob; exact fail_elim hob
  case mapup kt vt m key v =>
    rw [aeff] at hob ha ⊢
    rw [aeff]
    have hob := (p1_ob hob).2
    revert hob ha
    dsimp only [p1]
    generalize (peel (ev T m)).2 = X
    intro ha hob
    cases X with
    | mref b =>
      have hob := (allP_app.1 (allP_app.1 hob).2).2
      have key : hget H' b = hget H b := by
        revert ha hob
        dsimp only
        (repeat' split) <;> intro ha hob <;> first | exact fail_elim hob | exact hget_congr (ha.1 b (by simp))
      simp only [key]
      exact Ef.sim.refl _
    | _ => exact ⟨rfl, rfl, rfl⟩
  all_goals first
    | (rw [aeff, aeff]; exact Ef.sim.refl _)

end
end Go.Ab
