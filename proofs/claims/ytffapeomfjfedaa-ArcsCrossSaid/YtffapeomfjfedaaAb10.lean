/- Soundness, seventh part: what makes new blocks; aggregates. -/
import Derived.Test.YtffapeomfjfedaaAb9
set_option linter.unusedVariables false
set_option linter.unusedSimpArgs false
namespace Go.Ab

theorem foldl_set (off : Nat) : ∀ (L : List Value) (k : Nat) (cells : Array Value), off + k + L.length ≤ cells.size →
    (L.zipIdx k).foldl (fun cs (p : Value × Nat) => cs.setIfInBounds (off + p.2) p.1) cells = rowSet cells (off + k) L
  | [], k, cells, _ => by simp [rowSet]
  | v :: L, k, cells, h => by
    simp only [List.length_cons] at h
    simp only [List.zipIdx_cons, List.foldl_cons]
    rw [foldl_set off L (k + 1) _ (by simp; omega)]
    apply Array.ext_getElem?
    intro i
    rw [rowSet_get (by simp; omega), rowSet_get (by simp; omega)]
    simp only [List.length_cons]
    by_cases h1 : i = off + k
    · subst h1
      rw [if_neg (by omega), if_pos (by omega), Nat.sub_self]
      have : off + k < cells.size := by omega
      simp [this]
    · by_cases h2 : off + (k + 1) ≤ i ∧ i < off + (k + 1) + L.length
      · rw [if_pos h2, if_pos (by omega), show i - (off + k) = (i - (off + (k + 1))) + 1 by omega, List.getElem?_cons_succ]
      · rw [if_neg h2, if_neg (by omega), Array.getElem?_setIfInBounds_ne (fun h => h1 h.symm)]

theorem foldl_set0 {off : Nat} {v : Value} {cells : Array Value} (h : off + v.cells.size ≤ cells.size) :
    v.cells.zipIdx.foldl (fun cs (c, j) => cs.setIfInBounds (off + j) c) cells = rowSet cells off v.cells.toList := by
  have := foldl_set off v.cells.toList 0 cells (by simpa using h)
  rw [← Array.foldl_toList]
  simpa using this

section
variable {P : Program} {Γ : Cx} {H : List Hs} {w : World} {S : St} {a : Act}

theorem Fa.setMany {z cs : List AV} {c : Array Value} {L : List Value} {off : Nat} (h : Fa w Γ z c.toList) (hf : Fa w Γ cs L) (hfit : off + cs.length ≤ z.length) : Fa w Γ (setMany z off cs) (rowSet c off L).toList := by
  have hl := h.length
  have hl2 := hf.length
  have hfit' : off + L.length ≤ c.size := by simp at hl; omega
  refine Fa.of_get (by rw [setMany_length]; simp [rowSet_size hfit', hl]) fun i x hx => ?_
  rw [setMany_get cs z off hfit i] at hx
  have hg := rowSet_get hfit' i
  rw [← Array.getElem?_toList] at hg
  rw [hg]
  split at hx
  · rw [if_pos (by omega)]; exact hf.get _ x hx
  · rw [if_neg (by omega)]
    obtain ⟨v, hv, hr⟩ := h.get i x hx
    exact ⟨v, by simpa using hv, hr⟩

theorem alloc_old {x : Obj} {n : Nat} (h : n < w.heap.size) : (w.alloc x).heap[n]? = w.heap[n]? := by
  show (w.heap.push x)[n]? = _
  rw [Array.getElem?_push, if_neg (Nat.ne_of_lt h)]

theorem alloc_new {x : Obj} : (w.alloc x).heap[w.heap.size]? = some x := by
  show (w.heap.push x)[w.heap.size]? = _
  simp

/-- What immutable data a call may have made. -/
theorem EmbH.newI (e : EmbH Γ H w) {w' : World} (hold : ∀ n, n < w.heap.size → w'.heap[n]? = w.heap[n]?) (hs : w.heap.size ≤ w'.heap.size) (ho : w'.os = w.os) (hout : w'.output = w.output) :
    EmbH { Γ with I := fun b => Γ.I b ∨ (w.heap.size ≤ b ∧ b < w'.heap.size) } H w' ∧ Ext Γ H w { Γ with I := fun b => Γ.I b ∨ (w.heap.size ≤ b ∧ b < w'.heap.size) } H w' := by
  refine ⟨⟨fun b B hB => ?_, e.inj, fun b hb hk hi => ?_, fun n hn => ?_, e.al⟩, ⟨fun n hn _ => hold n hn, hs, ho, hout, fun n hn => .inl hn, fun n hn => ?_, fun n hn => .inl hn, fun b hb => ⟨hb, rfl, rfl⟩⟩⟩
  · exact RepB.mono (fun _ h => .inl h) (fun b hb => hold b (e.old b hb)) (fun _ h => ⟨h, rfl, rfl⟩) (e.alive ⟨B, hB⟩) (fun hk => hold _ (e.lt ⟨B, hB⟩ hk)) (e.blk b B hB)
  · rcases hi with hi | hi
    · exact e.imm b hb hk hi
    · exact absurd (e.lt hb hk) (Nat.not_lt.2 hi.1)
  · rcases hn with hn | hn
    · exact Nat.lt_of_lt_of_le (e.old n hn) hs
    · exact hn.2
  · rcases hn with hn | hn
    · exact .inl hn
    · exact .inr (.inr hn.1)

theorem RepB_of_flat {k : Nat} {te : Ty} {ys : List (Den te)} {L : List Value} {el : TypeId} (h1 : sz te = 1) (hh : w.heap[Γ.ν k]? = some (.cells L.toArray el (0, 0))) (hk : Γ.κ k = L.length)
    (hx : ys.length = L.length ∧ ∀ (k : Nat) (y : Den te), ys[k]? = some y → ∃ v, L[k]? = some v ∧ RepC w Γ.I te y [v]) : RepB w Γ k (.arr te ys false) := by
  simp only [RepB]
  refine ⟨by omega, fun _ => by omega, fun _ => ⟨_, el, hh, by simp [h1, hk], fun i y hy => ?_⟩⟩
  obtain ⟨v, hv, hr⟩ := hx.2 i y hy
  refine ⟨[v], hr, fun j u hj => ?_⟩
  cases j with
  | zero => simp at hj; subst hj; simpa [h1] using hv
  | succ j => simp at hj

theorem RepB_of_cells {k : Nat} {vs : List AV} {L : List Value} {el : TypeId} (hh : w.heap[Γ.ν k]? = some (.cells L.toArray el (0, 0))) (hk0 : Γ.κ k ≠ 0)
    (hf : Fa w Γ vs L) (ho : ∀ u ∈ L, u.oneCell' = true) : RepB w Γ k (.cells vs) := by
  simp only [RepB]
  refine ⟨hk0, _, el, hh, by simp [hf.length], fun i x hx => ?_⟩
  obtain ⟨v, hv, hr⟩ := hf.get i x hx
  exact ⟨v, by simpa using hv, ho v (List.mem_of_getElem? hv), hr⟩

theorem boxBlk_sound {t : Ty} {x : AV} {B : Blk} {u : Value} (h : boxBlk t x = some B) (hr : Ra w Γ x u) {k : Nat} {el : TypeId} (hh : w.heap[Γ.ν k]? = some (.cells u.cells el (0, 0))) (hk : Γ.κ k = u.cells.size) : RepB w Γ k B := by
  unfold boxBlk at h
  have hh' : w.heap[Γ.ν k]? = some (.cells u.cells.toList.toArray el (0, 0)) := by simpa using hh
  split at h
  · rename_i hag
    split at h
    · rename_i t' y
      split at h
      · rename_i z hc
        obtain ⟨rfl, rfl⟩ := castD_eq hc
        obtain ⟨L, hL, hv⟩ := Ra_val.1 hr
        simp only [mkV, hag, if_true] at hv
        subst hv
        split at h
        · rename_i s hs
          split at h
          · rename_i hcond
            simp only [Bool.and_eq_true, beq_iff_eq] at hcond
            cases h
            exact RepB_of_flat hcond.2 hh' (by simpa using hk) (flatS_sound s _ _ L hcond.1 hcond.2 hL)
          · split at h
            · rename_i h0
              cases h
              have hl := RepC.length _ _ _ hL
              exact RepB_of_cells hh' (by rw [hk]; simp only [Value.cells, List.size_toArray]; omega) (flatA_sound _ _ _ hL) (RepC.oneCell _ _ _ hL)
            · cases h
        · cases h
      · cases h
    · rename_i l
      split at h
      · rename_i hcond
        cases h
        simp only [Ra, Rp, List.cons.injEq, and_true] at hr
        obtain ⟨us, hv, hr, ho⟩ := hr
        subst hv
        have hf := isL_sound hcond.1 hr
        have hl := hf.length
        exact RepB_of_cells hh' (by rw [hk]; simp only [Value.cells, List.size_toArray]; omega) hf ho
      · cases h
    · cases h
  · split at h
    · rename_i hs
      cases h
      have h1 := scalarAV_sound hs hr
      rw [oneCell_cells h1] at hh'
      exact RepB_of_cells hh' (by rw [hk, oneCell_cells h1]; simp) (vs := [x]) ⟨hr, trivial⟩ (by simpa using h1)
    · cases h

theorem zeroA_one {t : Ty} {v : Value} (ht : isAgg t = false) : Fa w Γ (zeroA t [v]) [v] := by
  have key : ∀ (o : Option (Den t)), denOf t [v] = o → Fa w Γ (match o with | some x => [AV.val t x] | none => [.undef]) [v] := fun o ho => by
    cases o with
    | some x => exact flatA_one ht (denOf_sound _ _ _ ho)
    | none => exact ⟨Ra_undef, trivial⟩
  cases t with
  | slice e =>
    simp only [zeroA]
    split
    · rename_i he
      cases he
      exact ⟨Ra_vsl.2 ⟨none, rfl, Nat.le_refl _, fun _ => rfl, fun i x hx => by simp at hx⟩, trivial⟩
    · exact ⟨Ra_undef, trivial⟩
  | unit => simp [isAgg] at ht
  | prod p q => simp [isAgg] at ht
  | int k => exact key _ rfl
  | bool => exact key _ rfl
  | ptr e => exact key _ rfl
  | optr e => exact key _ rfl
  | map k v => exact key _ rfl
  | oth => exact key _ rfl

theorem zeroA_sound : ∀ (t : Ty) (cs : List Value), cs.length = sz t → Fa w Γ (zeroA t cs) cs
  | .unit, cs, h => by
    have : cs = [] := List.eq_nil_of_length_eq_zero h
    subst this; trivial
  | .prod p q, cs, h => by
    simp only [sz] at h
    have h1 := zeroA_sound p (cs.take (sz p)) (by simp; omega)
    have h2 := zeroA_sound q (cs.drop (sz p)) (by simp; omega)
    have := h1.app h2
    rwa [List.take_append_drop] at this
  | .int k, cs, h => by
    match cs, h with
    | [v], _ => exact zeroA_one rfl
  | .bool, cs, h => by
    match cs, h with
    | [v], _ => exact zeroA_one rfl
  | .slice e, cs, h => by
    match cs, h with
    | [v], _ => exact zeroA_one rfl
  | .ptr e, cs, h => by
    match cs, h with
    | [v], _ => exact zeroA_one rfl
  | .optr e, cs, h => by
    match cs, h with
    | [v], _ => exact zeroA_one rfl
  | .map k v, cs, h => by
    match cs, h with
    | [v], _ => exact zeroA_one rfl
  | .oth, cs, h => by
    match cs, h with
    | [v], _ => exact zeroA_one rfl

/-- A new block of cells. -/
theorem new_cells (e : EmbH Γ H w) {k c : Nat} {B : Blk} {cs : Array Value} {el : TypeId} (hk : H[k]? = some .free)
    (hB : ∀ Γ' w', (∀ x v, Ra w Γ x v → Ra w' Γ' x v) → (∀ t (x : Den t) cs, RepC w Γ.I t x cs → RepC w' Γ'.I t x cs) → w'.heap[Γ'.ν k]? = some (.cells cs el (0, 0)) → Γ'.κ k = c → RepB w' Γ' k B) :
    EmbH (Γ.new k w.heap.size c) (H.set k (.live B)) (w.alloc (.cells cs el)) ∧ Ext Γ H w (Γ.new k w.heap.size c) (H.set k (.live B)) (w.alloc (.cells cs el)) := by
  have hold : ∀ n, n < w.heap.size → (w.alloc (.cells cs el)).heap[n]? = w.heap[n]? := fun n hn => alloc_old hn
  refine e.alloc hk hold (by simp) rfl rfl ?_
  refine hB (Γ.new k w.heap.size c) (w.alloc (.cells cs el)) (fun x v h => Rp.mono (Γ := Γ) (Γ' := Γ.new k w.heap.size c) (fun _ h => h) (fun b hb => hold b (e.old b hb)) (new_al e hk) x _ h) (fun t x cs h => RepC.mono (fun _ h => h) (fun b hb => hold b (e.old b hb)) t x cs h) ?_ upd_self
  show (w.alloc _).heap[upd Γ.ν k w.heap.size k]? = _
  rw [upd_self, alloc_new]

theorem Ra_ref_new {k c : Nat} {w' : World} : Ra w' (Γ.new k w.heap.size c) (.ref k 1 0 0) (.pointer (some ⟨w.heap.size, 0, none⟩)) :=
  Ra_ref.2 ⟨.inr rfl, by simp [Cx.new, upd]⟩

theorem does_alloc (em : Emb Γ S a w) (sp : Spec) (base k : Nat) {e : TypeId} {ty : Ty} {inf : TypeInfo} {z : Value} {B : Blk} (hi : P.info? e = some inf) (hz : inf.zero = some z)
    (hsz : z.cells.size = sz ty) (hone : z.cells.toList.all Value.oneCell' = true) (hB : zeroBlk ty z.cells.toList = some B) {o : Oper} (ho : o.op = .alloc e)
    (hob : allP (aeff sp base S.T S.H (.alloc k B)).ob) : Does P Γ S.H w (aeff sp base S.T S.H (.alloc k B)) ((execOp a.eval o).run P w) := by
  rw [aeff] at hob ⊢
  split at hob
  · rename_i hf
    rw [if_pos hf]
    have hk := isFree_eq hf
    refine Does.new (v := .pointer (some ⟨w.heap.size, 0, none⟩)) (w' := w.alloc (.cells z.cells e)) ?_ rfl (new_cells em.heap (c := z.cells.size) hk fun Γ' w' h1 h2 h3 h4 => ?_) Ra_ref_new
    · simp [execOp, ho, Instr.alloc, zeroValue, typeInfo, hi, hz, newVar, newRow]
    · unfold zeroBlk at hB
      split at hB
      · rename_i hag
        split at hB
        · rename_i x hd
          have hr : Ra w' Γ' (.val ty x) (.agg z.cells) := Ra_val.2 ⟨_, denOf_sound _ _ _ hd, by simp [mkV, hag]⟩
          exact boxBlk_sound hB hr h3 h4
        · cases hB
      · cases hB
        rename_i hag
        have hag' : Ab.isAgg ty = false := by simpa using hag
        exact RepB_of_cells (L := z.cells.toList) (by simpa using h3) (by rw [h4, hsz, RepC.one hag']; simp) (zeroA_sound ty _ (by simpa using hsz)) (List.all_eq_true.1 hone)
  · exact fail_elim hob

theorem does_box (em : Emb Γ S a w) (sp : Spec) (base k : Nat) {tx : Option Ty} {x : Operand} {x' : Od} (hx : cOd tx x = some x') {e : TypeId} {ty : Ty} {o : Oper} (ho : o.op = .box e x)
    (hob : allP (aeff sp base S.T S.H (.box k ty x')).ob) : Does P Γ S.H w (aeff sp base S.T S.H (.box k ty x')) ((execOp a.eval o).run P w) := by
  have r1 := cOd_sound em hx
  rw [aeff] at hob ⊢
  have hob0 := p1_ob hob
  clear hob
  obtain ⟨p, hob⟩ := hob0
  have r1 := peel_sound r1 p
  revert hob
  dsimp only [p1]
  generalize (peel (ev S.T x')).2 = X at r1
  intro hob
  cases hB : boxBlk ty X with
  | none => rw [hB] at hob; exact fail_elim hob
  | some B =>
    rw [hB] at hob
    simp only at hob ⊢
    split at hob
    · rename_i hf
      rw [if_pos hf]
      have hk := isFree_eq hf
      refine Does.new (v := .pointer (some ⟨w.heap.size, 0, none⟩)) (w' := w.alloc (.cells (a.eval x).cells e)) ?_ rfl (new_cells em.heap (c := (a.eval x).cells.size) hk fun Γ' w' h1 h2 h3 h4 => ?_) Ra_ref_new
      · simp [execOp, ho, Instr.box, newVar, newRow]
      · exact boxBlk_sound hB (h1 _ _ r1) h3 h4
    · exact fail_elim hob

theorem cOds_sound (em : Emb Γ S a w) : ∀ {tys : List (Option Ty)} {xs : List Operand} {l : List Od}, cOds tys xs = some l → Fa w Γ (l.map (ev S.T)) (xs.map a.eval)
  | _, [], l, h => by simp only [cOds, Option.some.injEq] at h; subst h; trivial
  | tys, x :: xs, l, h => by
    simp only [cOds] at h
    split at h
    · rename_i y ys h1 h2
      cases h
      exact ⟨cOd_sound em h1, cOds_sound em h2⟩
    · cases h

theorem does_mkfn (em : Emb Γ S a w) (sp : Spec) (base : Nat) {f : FuncId} {tys : List (Option Ty)} {first caps : Array Operand} {l : List Od} (h0 : first.size = 0) (hx : cOds tys caps.toList = some l) {o : Oper} (ho : o.op = .makeFunc (.func f) first caps)
    (hob : allP (aeff sp base S.T S.H (.mkfn f l)).ob) : Does P Γ S.H w (aeff sp base S.T S.H (.mkfn f l)) ((execOp a.eval o).run P w) := by
  rw [aeff] at hob ⊢
  have r1 := cOds_sound em hx
  have hfe : first = #[] := by simpa using h0
  refine Does.val em.heap (v := .func (.func f) #[] (caps.toList.map a.eval).toArray) ?_ rfl ?_
  · have : Array.map a.eval caps = (List.map a.eval caps.toList).toArray := by cases caps; simp
    simp [execOp, ho, Instr.makeFunc, hfe, this]
  · simp only [Ra, Rp, List.cons.injEq, and_true]
    exact ⟨_, rfl, Rp_toAV.2 r1⟩

theorem does_mkmap (em : Emb Γ S a w) (sp : Spec) (base k : Nat) {kt vt : Ty} {t : TypeId} {o : Oper} (ho : o.op = .makeMap t none)
    (hob : allP (aeff sp base S.T S.H (.mkmap k kt vt)).ob) : Does P Γ S.H w (aeff sp base S.T S.H (.mkmap k kt vt)) ((execOp a.eval o).run P w) := by
  rw [aeff] at hob ⊢
  split at hob
  · rename_i hf
    rw [if_pos hf]
    have hk := isFree_eq hf
    have hold : ∀ n, n < w.heap.size → (w.alloc (.map #[] 0)).heap[n]? = w.heap[n]? := fun n hn => alloc_old hn
    refine Does.new (v := .map (some w.heap.size)) (w' := w.alloc (.map #[] 0)) ?_ rfl (em.heap.alloc (c := 1) hk hold (by simp) rfl rfl ?_) ?_
    · simp [execOp, ho, Instr.makeMap]
    · simp only [RepB]
      refine ⟨by simp [Cx.new, upd], #[], 0, ?_, rfl, fun i e he => by simp at he⟩
      show (w.alloc _).heap[upd Γ.ν (base + k) w.heap.size (base + k)]? = _
      rw [upd_self, alloc_new]
    · simp only [Ra, Rp, List.cons.injEq, and_true]
      exact ⟨.inr rfl, by simp [Cx.new, upd]⟩
  · exact fail_elim hob

end
end Go.Ab
