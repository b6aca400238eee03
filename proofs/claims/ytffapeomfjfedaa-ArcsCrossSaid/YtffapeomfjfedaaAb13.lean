/- Soundness, tenth part: literals, make, append. -/
import Derived.Test.YtffapeomfjfedaaAb12
set_option linter.unusedVariables false
set_option linter.unusedSimpArgs false
namespace Go.Ab

section
variable {P : Program} {Γ : Cx} {H : List Hs} {w : World} {S : St} {a : Act}

theorem seg_of {cs : Array Value} {te : Ty} {i : Nat} {L : List Value} (hL : L = (cs.toList.drop (i * sz te)).take (sz te)) {j : Nat} {v : Value} (h : L[j]? = some v) : cs[i * sz te + j]? = some v := by
  subst hL
  rw [List.getElem?_take] at h
  split at h
  · rw [List.getElem?_drop] at h
    simpa using h
  · cases h

theorem RepB_arr_of {k : Nat} {te : Ty} {xs : List (Den te)} {opn : Bool} {cs : Array Value} {el : TypeId} (hh : w.heap[Γ.ν k]? = some (.cells cs el (0, 0))) (hk : cs.size = Γ.κ k * sz te) (hle : xs.length ≤ Γ.κ k) (ho : opn = false → xs.length = Γ.κ k)
    (hx : ∀ (i : Nat) (x : Den te), xs[i]? = some x → RepC w Γ.I te x ((cs.toList.drop (i * sz te)).take (sz te))) : RepB w Γ k (.arr te xs opn) := by
  simp only [RepB]
  exact ⟨hle, ho, fun _ => ⟨cs, el, hh, hk, fun i x hi => ⟨_, hx i x hi, fun j v hj => seg_of rfl hj⟩⟩⟩

theorem does_bslicem (em : Emb Γ S a w) (sp : Spec) (base k : Nat) {t e : TypeId} {te : Ty} {inf : TypeInfo} {z : Value} {n : Nat} {ps : Array (Nat × Operand)} {l : List Od}
    (hu : P.underlying t = some (.slice e)) (ht : tyS P e = some te) (hi : P.info? e = some inf) (hz : inf.zero = some z) (hl : cPartsS te 0 ps.toList = some l) (hn : l.length = n) (hzs : z.cells.size = sz te) (hbig : n * sz te ≤ 1000000)
    {o : Oper} (ho : o.op = .buildSlice t n ps)
    (hob : allP (aeff sp base S.T S.H (.bslicem k te l)).ob) : Does P Γ S.H w (aeff sp base S.T S.H (.bslicem k te l)) ((execOp a.eval o).run P w) := by
  rw [aeff] at hob ⊢
  cases hb : bsList te S.T l with
  | none => rw [hb] at hob; exact fail_elim hob
  | some u =>
    obtain ⟨q, xs⟩ := u
    rw [hb] at hob
    simp only at hob ⊢
    split at hob
    · rename_i hf
      rw [if_pos hf]
      have hk := isFree_eq hf
      obtain ⟨cs, hr, h1, h2, h3⟩ := bslice_run em hu ht hi hz hl hn hzs hbig hb hob ho
      refine Does.new hr rfl (new_cells em.heap (c := n) hk fun Γ' w' g1 g2 g3 g4 => ?_) ?_
      · exact RepB_arr_of g3 (by rw [g4]; exact h1) (by rw [g4, h2]; exact Nat.le_refl _) (fun _ => by rw [g4, h2]) (fun i x hx => g2 _ _ _ (h3 i x hx))
      · refine Ra_sl.2 ⟨.inr rfl, some ⟨w.heap.size, 0, none⟩, n, ?_, by simp [hn], fun _ => by simp [Cx.new, upd], by omega⟩
        rw [hn]
    · exact fail_elim hob

theorem does_bslice (em : Emb Γ S a w) (sp : Spec) (base : Nat) {t e : TypeId} {te : Ty} {inf : TypeInfo} {z : Value} {n : Nat} {ps : Array (Nat × Operand)} {l : List Od}
    (hu : P.underlying t = some (.slice e)) (ht : tyS P e = some te) (hi : P.info? e = some inf) (hz : inf.zero = some z) (hl : cPartsS te 0 ps.toList = some l) (hn : l.length = n) (hzs : z.cells.size = sz te) (hbig : n * sz te ≤ 1000000)
    {o : Oper} (ho : o.op = .buildSlice t n ps)
    (hob : allP (aeff sp base S.T S.H (.bslice te l)).ob) : Does P Γ S.H w (aeff sp base S.T S.H (.bslice te l)) ((execOp a.eval o).run P w) := by
  rw [aeff] at hob ⊢
  cases hb : bsList te S.T l with
  | none => rw [hb] at hob; exact fail_elim hob
  | some u =>
    obtain ⟨q, xs⟩ := u
    rw [hb] at hob
    simp only at hob ⊢
    obtain ⟨cs, hr, h1, h2, h3⟩ := bslice_run em hu ht hi hz hl hn hzs hbig hb hob ho
    have hN := em.heap.newI (w' := w.alloc (.cells cs e)) (fun n hn => alloc_old hn) (by simp) rfl rfl
    refine Does.new hr rfl hN (Ra_val.2 (RepV_slice.2 ⟨_, n, by rw [h2], by omega, by simp, fun i x hx => ?_⟩))
    refine ⟨w.heap.size, 0, (cs.toList.drop (i * sz te)).take (sz te), rfl, .inr ⟨Nat.le_refl _, by simp⟩, ?_, fun j v hj => ?_⟩
    · exact RepC.mono (fun _ h => .inl h) (fun b hb => alloc_old (em.heap.old b hb)) te x _ (h3 i x hx)
    · have := seg_of (cs := cs) rfl hj
      simp only [World.cell?, alloc_new, Option.isSome_none, Bool.false_eq_true, if_false, Nat.zero_add]
      exact this

theorem does_mkslice (em : Emb Γ S a w) (sp : Spec) (base k : Nat) {t e : TypeId} {te : Ty} {inf : TypeInfo} {z : Value} {zd : Den te} {n c : Operand} {n' c' : Od} {tn tc : Option Ty}
    (hu : P.underlying t = some (.slice e)) (ht : tyS P e = some te) (hi : P.info? e = some inf) (hz : inf.zero = some z) (hd : denOf te z.cells.toList = some zd) (hzs : z.cells.size = sz te) (hb0 : 0 < inf.bytes) (hsz0 : 0 < sz te)
    (hn : cOd tn n = some n') (hc : cOd tc c = some c') {o : Oper} (ho : o.op = .makeSlice t n c)
    (hob : allP (aeff sp base S.T S.H (.mkslice k te zd inf.bytes n' c')).ob) : Does P Γ S.H w (aeff sp base S.T S.H (.mkslice k te zd inf.bytes n' c')) ((execOp a.eval o).run P w) := by
  obtain ⟨inf', d, hi', _, hsz, _⟩ := tyS_spec ht
  rw [hi] at hi'; cases hi'
  have r1 := cOd_sound em hn
  have r2 := cOd_sound em hc
  rw [aeff] at hob ⊢
  have hob0 := p1_ob hob
  clear hob
  obtain ⟨p, hob⟩ := hob0
  have hob0 := p1_ob hob
  clear hob
  obtain ⟨q, hob⟩ := hob0
  have r1 := peel_sound r1 p
  have r2 := peel_sound r2 q
  revert hob
  dsimp only [p1]
  cases h1 : asInt (peel (ev S.T n')).2 with
  | none => exact fun hob => fail_elim hob
  | some u => cases h2 : asInt (peel (ev S.T c')).2 with
    | none => exact fun hob => fail_elim hob
    | some v =>
      obtain ⟨k1, m⟩ := u
      obtain ⟨k2, cc⟩ := v
      simp only
      intro hob
      split at hob
      · rename_i hf
        rw [if_pos hf]
        have hk := isFree_eq hf
        obtain ⟨b1, b2, b3⟩ := allP_one.1 hob
        have e1 := asInt_sound h1 r1
        have e2 := asInt_sound h2 r2
        have hcc : cc ≤ 1099511627776 := Int.le_trans (by
          have : cc * 1 ≤ cc * (inf.bytes : Int) := Int.mul_le_mul_of_nonneg_left (by omega) (by omega)
          omega) b3
        have w1 : IntKind.i64.wrap m = m := IntWalk.i64_in _ (by omega)
        have w2 : IntKind.i64.wrap cc = cc := IntWalk.i64_in _ (by omega)
        have hbb : (inf.bytes : Int) * cc ≤ 1099511627776 := by rw [Int.mul_comm]; exact b3
        have t1 : ¬ ((2:Int) ^ 48 < (inf.bytes : Int) * cc) := by omega
        have t2 : ¬ (cc < 0) := by omega
        have t3 : ¬ (m < 0) := by omega
        have t4 : ¬ (cc < m) := by omega
        let cells : Array Value := (Array.range (cc.toNat * sz te)).map (z.cells[· % z.cells.size]!)
        have hrun : (execOp a.eval o).run P w = .ok (.value (.slice (some ⟨w.heap.size, 0, none⟩) m.toNat cc.toNat)) (w.alloc (.cells cells e)) := by
          have hcells : (Array.range (cc.toNat * sz te)).map ((if cc.toNat * sz te = 0 then (#[] : Array Value) else z.cells)[· % (if cc.toNat * sz te = 0 then (#[] : Array Value) else z.cells).size]!) = cells := by
            by_cases h0 : cc.toNat * sz te = 0
            · simp only [cells, h0]
              have hr0 : Array.range 0 = (#[] : Array Nat) := rfl
              rw [hr0]; simp
            · simp [cells, h0]
          have main : (Instr.makeSlice t (.int k1 m) (.int k2 cc)).run P w = .ok (.slice (some ⟨w.heap.size, 0, none⟩) m.toNat cc.toNat) (w.alloc (.cells cells e)) := by
            unfold Instr.makeSlice
            simp only [Sem.run_bind, run_underlying hu, Result.andThen_ok, Go.asInt, asIntOf, Sem.run_pure, typeInfo, run_program, hi, w1, w2, sizeOf, hsz]
            simp only [Bool.or_eq_true, decide_eq_true_eq]
            rw [if_neg (by
              rintro ((h | h) | h)
              · rcases h with h | h
                · exact t2 h
                · exact t1 h
              · exact t3 h
              · exact t4 h)]
            simp only [Sem.run_bind, run_askRoom, Result.andThen_ok, run_program, hi, Sem.run_pure, hsz]
            by_cases h0 : cc.toNat * sz te = 0
            · simp only [h0, if_true, Sem.run_pure, Result.andThen_ok, newRow, Sem.run_bind, run_newObj]
              simp only [h0, if_true] at hcells
              rw [hcells]
              rfl
            · simp only [h0, if_false, Sem.run_bind, zeroValue, typeInfo, run_program, Result.andThen_ok, hi, hz, Sem.run_pure, newRow, run_newObj]
              simp only [h0, if_false] at hcells
              rw [hcells]
              rfl
          simp only [execOp, ho, e1, e2, Sem.run_bind, main, Result.andThen_ok, Sem.run_pure]
        have hcs : cells.size = cc.toNat * sz te := by simp [cells]
        refine Does.new hrun rfl (new_cells em.heap (c := cc.toNat) hk fun Γ' w' g1 g2 g3 g4 => ?_) ?_
        · refine RepB_arr_of g3 (by rw [g4]; exact hcs) (by rw [g4]; simp; omega) (by simp) (fun i x hx => ?_)
          have hlt : i < m.toNat := by
            rcases Nat.lt_or_ge i m.toNat with h | h
            · exact h
            · rw [List.getElem?_eq_none (by simpa using h)] at hx; cases hx
          rw [List.getElem?_replicate, if_pos hlt] at hx
          cases hx
          have hzc := denOf_sound (w := w') (I := Γ'.I) te _ _ hd
          have : (cells.toList.drop (i * sz te)).take (sz te) = z.cells.toList := by
            apply List.ext_getElem?
            intro j
            rw [List.getElem?_take]
            by_cases hj : j < sz te
            · rw [if_pos hj, List.getElem?_drop]
              have hfit : i * sz te + j < cc.toNat * sz te := by
                have : (i + 1) * sz te ≤ cc.toNat * sz te := Nat.mul_le_mul_right _ (by omega)
                rw [Nat.succ_mul] at this; omega
              have hmod : (i * sz te + j) % z.cells.size = j := by
                rw [hzs, Nat.add_comm, Nat.add_mul_mod_self_right, Nat.mod_eq_of_lt hj]
              simp only [cells, Array.toList_map, List.getElem?_map, Array.toList_range, List.getElem?_range hfit, Option.map_some, hmod]
              have hjz : j < z.cells.size := by omega
              rw [getElem!_pos z.cells j hjz]
              simp [hjz]
            · rw [if_neg hj, List.getElem?_eq_none (by simp; omega)]
          rw [this]
          exact hzc
        · exact Ra_sl.2 ⟨.inr rfl, some ⟨w.heap.size, 0, none⟩, cc.toNat, rfl, by simp [Cx.new, upd], fun _ => by simp [Cx.new, upd], by omega⟩
      · exact fail_elim hob

end
end Go.Ab
