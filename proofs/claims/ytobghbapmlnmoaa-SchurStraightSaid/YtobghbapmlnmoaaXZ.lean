/- Straight: what it tells of a skew filling. -/
import Derived.Test.YtobghbapmlnmoaaXY
import Derived.Test.YtobghbapmlnmoaaYT1
import Derived.Test.YtobghbapmlnmoaaYT2
import Derived.Test.YtobghbapmlnmoaaYT3
import Derived.Test.YtobghbapmlnmoaaYT4
import Derived.Test.YtobghbapmlnmoaaXT
set_option linter.unusedVariables false
set_option linter.unusedSimpArgs false
set_option maxRecDepth 100000
namespace Go.Schur
open Go Go.Ab Go.Proofs
theorem tab_all {m w : List Nat} (hm : m ∈ allP) (h8 : m.sum ≤ 8) (hv : validN m [] w) (hl : m.sum + w.length ≤ 8) : chkN m w = true:=by
 have hf : ∀ s,m.sum = s → m ∈ allP.filter (fun (m : List Nat)=>Nat.beq m.sum s):=fun s hs=>List.mem_filter.2 ⟨hm,by rw [hs];exact Nat.beq_refl s⟩
 have key : goN m (8 - m.sum) [] = true:=by
  rcases (by omega : m.sum = 0 ∨ m.sum = 1 ∨ m.sum = 2 ∨ m.sum = 3 ∨ m.sum = 4 ∨ m.sum = 5 ∨ m.sum = 6 ∨ m.sum = 7 ∨ m.sum = 8) with h | h | h | h | h | h | h | h | h
  ·rw [h];exact List.all_eq_true.1 tabY0 m (hf _ h)
  ·rw [h];exact List.all_eq_true.1 tabY1 m (hf _ h)
  ·rw [h];exact List.all_eq_true.1 tabY2 m (hf _ h)
  ·rw [h];exact List.all_eq_true.1 tabY3 m (hf _ h)
  ·rw [h];exact List.all_eq_true.1 tabY4 m (hf _ h)
  ·rw [h];exact List.all_eq_true.1 tabY5 m (hf _ h)
  ·rw [h];exact List.all_eq_true.1 tabY6 m (hf _ h)
  ·rw [h];exact List.all_eq_true.1 tabY7 m (hf _ h)
  ·rw [h];exact List.all_eq_true.1 tabY8 m (hf _ h)
 exact go_all _ [] w key hv (by omega)
theorem at_ext {l : List Int} {R R' : List (List Int)} (hg : ∀ i,R.getD i [] = R'.getD i []) {i : Nat} {c : Int} : atR l R i c = atR l R' i c:=by
 unfold atR el;rw [hg]
theorem bed_ext {l : List Int} {R R' : List (List Int)} (h : BedR l R) (hg : ∀ i,R.getD i [] = R'.getD i []) (h1 : l.length ≤ R'.length) (h2 : R'.length ≤ 20) : BedR l R':=by
 have ho : ∀ i,outI l R' i = outI l R i:=fun i=>by unfold outI;rw [hg]
 refine ⟨h.shp,h1,h2,fun i=>by rw [ho,ho];exact h.dec i,by rw [ho];exact h.o8,fun i j hj=>?_⟩
 rw [← hg] at hj
 have:=h.ent i j hj
 unfold el at this ⊢
 rw [← hg];exact this
theorem trim_ext {l : List Int} {R R' : List (List Int)} (h : BedR l R) (h' : BedR l R') (hg : ∀ i,R.getD i [] = R'.getD i []) : trimF ((l,R,()) : SkD) = trimF ((l,R',()) : SkD):=by
 obtain ⟨xs,hx,hb⟩:=ex_box l R
 obtain ⟨R1,e1,_,_,s1⟩:=trim_bed h
 obtain ⟨R2,e2,_,_,s2⟩:=trim_bed h'
 have h1:=s1 xs hb
 have h2:=s2 xs fun a b ha hb'=>by rw [hb a b ha hb',at_ext hg]
 rw [e1,e2,← h1,← h2]
theorem sld_ext {l : List Int} {R R' : List (List Int)} (h : BedR l R) (h' : BedR l R') (hg : ∀ a b : Nat,atR l R' a b = atR l R a b) {row : Int} (hc : crnB l row = true) : sldR ((l,R,()) : SkD) row = sldR ((l,R',()) : SkD) row:=by
 obtain ⟨xs,hx,hb⟩:=ex_box l R
 obtain ⟨R1,e1,_,_,_,s1⟩:=slide_out h hc hx hb
 obtain ⟨R2,e2,_,_,_,s2⟩:=slide_out h' hc hx fun a b ha hb'=>by rw [hb a b ha hb',hg]
 rw [e1,e2,← s1,← s2]
theorem cnt_flat (rows:List (List Int)) (x:Int) : cntF rows x = ((rows.flatten.countP fun y=>decide (y = x):Nat):Int):=by
 unfold cntF
 rw [List.countP_flatten]
theorem mapR_flat {f : Nat → Int} {U : List (List Nat)} : (mapR f U).flatten = U.flatten.map f:=by
 unfold mapR;rw [List.map_flatten]
theorem pairs_snd : ∀ (R:List (List Int)) (k:Nat),(pairsR k R).map (·.2) = R.flatten
 | [],_=>rfl
 | r :: R,k=>by
  rw [pairsR,List.map_append,pairs_snd R (k + 1),List.map_map,List.flatten_cons]
  congr 1
  exact List.map_id r
theorem word_snd (W : List WP) : (List.range' 1 W.length).map (fW W) = W.map (·.2):=by
 refine List.ext_getElem (by simp) fun i h1 h2=>?_
 have hi : i < W.length:=by simpa using h2
 rw [List.getElem_map,List.getElem_map,List.getElem_range',Nat.one_mul,Nat.add_comm,fW_at hi]
theorem straight_all {l : List Int} {R : List (List Int)} (h : SkOk l R) : ∃ (m w : List Nat) (f : Nat → Int) (U : List (List Nat)),l = toI m ∧ m ∈ allP ∧ w = (wordR R).map (·.1) ∧ f = fW (wordR R) ∧ Fit f w w.length ∧ validN m [] w ∧ m.sum + w.length ≤ 8 ∧ trimF ((l,R,()) : SkD) = sk f (trN (m,rowsN w)) ∧
  strN w 40 (trN (m,rowsN w)) = some U ∧ okN2 w w.length ([],U) = true ∧ (∀ r ∈ U,r.length ≠ 0) ∧ U.flatten.Perm (List.range' 1 w.length) ∧
  ∀ r,gN m (r + 1) < gN m r → r < m.length → ∃ u,sldN w (trN (m,rowsN w)) r = some u ∧ okN2 w w.length u = true ∧ trN u = u ∧ strN w 40 u = some U:=by
 obtain ⟨m,hm,rfl,_,_,h8⟩:=shape_allP h.shp
 obtain ⟨hv,hl⟩:=word_valid h
 have hlen : ((wordR R).map (·.1)).length = (wordR R).length:=List.length_map ..
 have hc:=tab_all hm h8 hv (by rw [hlen];exact hl)
 have hE : ∀ a ∈ wordR R,1 ≤ a.2 ∧ a.2 ≤ 8:=fun a ha=>by
  obtain ⟨k,hk,he⟩:=word_mem ha
  rw [← he]
  exact (h.cnd _ (row_in (by omega))).ent k hk
 have hF:=fit_W (word_sorted R) hE
 have hg : ∀ i,R.getD i [] = (mapR (fW (wordR R)) (rowsN ((wordR R).map (·.1)))).getD i []:=fun i=>by
  rw [rowsW_map,word_row (row_pw h)]
  by_cases hi : i < 8
  ·rw [if_pos hi]
  ·rw [if_neg hi]
   have : ¬ 0 < (R.getD i []).length:=fun h0=>hi (sk_row8 h h0)
   exact List.eq_nil_of_length_eq_zero (by omega)
 have hb:=bed_ok h
 have hl8:=(shapeB_iff.1 h.shp).1
 have hR8 : (mapR (fW (wordR R)) (rowsN ((wordR R).map (·.1)))).length = 8:=by unfold mapR rowsN;simp
 have hb':=bed_ext hb hg (by rw [hR8];exact hl8) (by rw [hR8];omega)
 unfold chkN at hc
 cases hs : strN ((wordR R).map (·.1)) 40 (trN (m,rowsN ((wordR R).map (·.1)))) with
 | none=>rw [hs] at hc;cases hc
 | some U =>
  rw [hs] at hc
  simp only [Bool.and_eq_true] at hc
  obtain ⟨⟨⟨c1,c2⟩,c3⟩,c4⟩:=hc
  refine ⟨m,(wordR R).map (·.1),fW (wordR R),U,rfl,hm,rfl,rfl,?_⟩
  refine And.intro (by rw [hlen];exact hF) (And.intro hv (And.intro (by rw [hlen];exact hl) (And.intro ?_ (And.intro hs (And.intro c1 (And.intro (fun r hr h0=>?_) (And.intro (List.isPerm_iff.1 c3) (fun r hr1 hr2=>?_))))))))
  ·rw [trim_ext hb hb' hg]
   exact trN_eq (s:=(m,rowsN ((wordR R).map (·.1))))
  ·have:=List.all_eq_true.1 c2 r hr
   rw [h0] at this;cases this
  ·have:=List.all_eq_true.1 c4 r (List.mem_range.2 hr2)
   rw [show Nat.blt (gN m (r + 1)) (gN m r) = true by rw [Nat.blt_eq];exact hr1,cond_true] at this
   cases hu : sldN ((wordR R).map (·.1)) (trN (m,rowsN ((wordR R).map (·.1)))) r with
   | none=>rw [hu] at this;cases this
   | some u =>
    rw [hu] at this
    simp only [Bool.and_eq_true,decide_eq_true_eq] at this
    exact ⟨u,rfl,this.1.1,this.1.2,this.2⟩
theorem skB_of {inner : List Int} {rows : List (List Int)} (h : SkOk inner rows) : skB ((inner,rows,()) : SkD) = true:=(skB_iff h.l20).2 h
theorem straight_ok {t : SkD} (h : SkOk t.1 t.2.1) : ∃ a,stX t = (a,0,()) ∧ fillB a = true ∧ (∀ x,cntF a x = cntF t.2.1 x) ∧ SkOk [] a ∧
  ∀ row,crnB t.1 row = true → ∃ nx : SkD,slX t row = (nx,0,()) ∧ SkOk nx.1 nx.2.1 ∧ stX nx = (a,0,()):=by
 obtain ⟨m,w,f,U,q1,q2,q3,q4,q5,q6,q7,q8,q9,q10,q11,q12,q13⟩:=straight_all h
 have es0 : ((t.1,t.2.1,()) : SkD) = t:=rfl
 rw [es0] at q8
 obtain ⟨_,e1,e2⟩:=slides_ok h
 have hst : (strG 40 (trimF t)).2.1 = mapR f U:=by rw [q8];exact strN_eq q5 40 _ U q9
 have hS : SkOk [] (mapR f U):=okN2_ok q5 q10
 refine ⟨mapR f U,by rw [e1,hst],?_,fun x=>?_,hS,fun row hc=>?_⟩
 ·unfold fillB
  rw [skB_of hS,Bool.and_true,Bool.not_eq_true',List.any_eq_false]
  intro r hr hq
  unfold mapR at hr
  obtain ⟨u,hu,rfl⟩:=List.mem_map.1 hr
  have:=q11 u hu
  unfold mtB at hq
  simp at hq
  exact this (by rw [hq];rfl)
 ·rw [cnt_flat,cnt_flat,mapR_flat,(q12.map f).countP_eq,q4,q3,List.length_map,word_snd,((word_perm t.2.1).map (·.2)).countP_eq,pairs_snd]
 ·obtain ⟨c0,c1,c2,c3⟩:=crn_pos h.shp hc
  have hr : row = ((row.toNat:Nat):Int):=by omega
  have hb:=bed_ok h
  obtain ⟨R1,t1,t2,t3,_⟩:=trim_bed hb
  have es : ((t.1,t.2.1,()) : SkD) = t:=rfl
  rw [es] at t1
  have hlt : gN m (row.toNat + 1) < gN m row.toNat:=by
   unfold crnB at hc
   rw [decide_eq_true_eq] at hc
   have:=hc.2.2
   rw [q1,hr,show ((row.toNat:Nat):Int) + 1 = ((row.toNat + 1:Nat):Int) by omega,toI_gN,toI_gN] at this
   omega
  have hml : row.toNat < m.length:=by
   have : t.1.length = m.length:=by rw [q1];unfold toI;rw [List.length_map]
   omega
  obtain ⟨u,u1,u2,u3,u4⟩:=q13 row.toNat hlt hml
  have hsl : sldR t row = sk f u:=by
   have:=sld_ext hb t2 t3 hc
   rw [es,← t1,q8,hr] at this
   rw [hr,this]
   exact sldN_eq q5 u1
  have hSu : SkOk (sk f u).1 (sk f u).2.1:=okN2_ok q5 u2
  refine ⟨sk f u,by rw [e2 row hc,hsl],hSu,?_⟩
  obtain ⟨_,e3,_⟩:=slides_ok hSu
  rw [e3,trN_eq,u3,strN_eq q5 40 u U u4]
end Go.Schur
namespace Go.Schur
open Go Go.Ab Go.Proofs
noncomputable def con11 : Con:=mkC 11 [.d SkT,.d I64] [.bool] (fun (s : SkD) (row:Int)=>[small s.1 ∧ small s.2.1]) (fun (s : SkD) (row:Int)=>(true,()))
noncomputable def g11 (x0 : List Int × List (List Int) × Unit) (x1:Int) : Option (Bool × Unit):=gd (small x0.1 ∧ small x0.2.1) (gd (small (cutF ((x0.1,x0.2.1,()) : List Int × List (List Int) × Unit)).1 ∧ small (cutF ((x0.1,x0.2.1,()) : List Int × List (List Int) × Unit)).2.1) (gd (okRs (cutF (((cutF ((x0.1,x0.2.1,()) : List Int × List (List Int) × Unit)).1,(cutF ((x0.1,x0.2.1,()) : List Int × List (List Int) × Unit)).2.1,()) : List Int × List (List Int) × Unit))) (bif !ieq (stX (cutF (((cutF ((x0.1,x0.2.1,()) : List Int × List (List Int) × Unit)).1,(cutF ((x0.1,x0.2.1,()) : List Int × List (List Int) × Unit)).2.1,()) : List Int × List (List Int) × Unit))).2.1 0 then gd (ieq (stX (cutF (((cutF ((x0.1,x0.2.1,()) : List Int × List (List Int) × Unit)).1,(cutF ((x0.1,x0.2.1,()) : List Int × List (List Int) × Unit)).2.1,()) : List Int × List (List Int) × Unit))).2.1 2 = true → ieq (stX (cutF (((cutF ((x0.1,x0.2.1,()) : List Int × List (List Int) × Unit)).1,(cutF ((x0.1,x0.2.1,()) : List Int × List (List Int) × Unit)).2.1,()) : List Int × List (List Int) × Unit))).2.1 2 = true) (some ((bif ieq (stX (cutF (((cutF ((x0.1,x0.2.1,()) : List Int × List (List Int) × Unit)).1,(cutF ((x0.1,x0.2.1,()) : List Int × List (List Int) × Unit)).2.1,()) : List Int × List (List Int) × Unit))).2.1 2 then true else false,()) : Bool × Unit)) else gd (okL2 (stX (cutF (((cutF ((x0.1,x0.2.1,()) : List Int × List (List Int) × Unit)).1,(cutF ((x0.1,x0.2.1,()) : List Int × List (List Int) × Unit)).2.1,()) : List Int × List (List Int) × Unit))).1) (bif !fillB (stX (cutF (((cutF ((x0.1,x0.2.1,()) : List Int × List (List Int) × Unit)).1,(cutF ((x0.1,x0.2.1,()) : List Int × List (List Int) × Unit)).2.1,()) : List Int × List (List Int) × Unit))).1 then some ((false,()) : Bool × Unit) else whileO (fun (d2 : Int × List Int × List (List Int) × Unit)=>bif ile d2.1 8 then gd (okL2 (stX (cutF (((cutF ((x0.1,x0.2.1,()) : List Int × List (List Int) × Unit)).1,(cutF ((x0.1,x0.2.1,()) : List Int × List (List Int) × Unit)).2.1,()) : List Int × List (List Int) × Unit))).1) (gd (okL2 d2.2.2.1) (bif !ieq (cntF (stX (cutF (((cutF ((x0.1,x0.2.1,()) : List Int × List (List Int) × Unit)).1,(cutF ((x0.1,x0.2.1,()) : List Int × List (List Int) × Unit)).2.1,()) : List Int × List (List Int) × Unit))).1 d2.1) (cntF d2.2.2.1 d2.1) then some (Lp.out ((false,()) : Bool × Unit)) else some (Lp.go ((wr .i64 (d2.1 + 1),d2.2.1,d2.2.2.1,()) : Int × List Int × List (List Int) × Unit)))) else gd (small d2.2.1 ∧ small d2.2.2.1) (gd (okRs (cutF ((d2.2.1,d2.2.2.1,()) : List Int × List (List Int) × Unit))) (bif !ieq (slX (cutF ((d2.2.1,d2.2.2.1,()) : List Int × List (List Int) × Unit)) x1).2.1 0 then gd (ieq (slX (cutF ((d2.2.1,d2.2.2.1,()) : List Int × List (List Int) × Unit)) x1).2.1 2 = true → ieq (slX (cutF ((d2.2.1,d2.2.2.1,()) : List Int × List (List Int) × Unit)) x1).2.1 2 = true) (some (Lp.out ((bif ieq (slX (cutF ((d2.2.1,d2.2.2.1,()) : List Int × List (List Int) × Unit)) x1).2.1 2 then true else false,()) : Bool × Unit))) else gd (okRs (((slX (cutF ((d2.2.1,d2.2.2.1,()) : List Int × List (List Int) × Unit)) x1).1.1,(slX (cutF ((d2.2.1,d2.2.2.1,()) : List Int × List (List Int) × Unit)) x1).1.2.1,()) : List Int × List (List Int) × Unit)) (gd (ieq (stX (((slX (cutF ((d2.2.1,d2.2.2.1,()) : List Int × List (List Int) × Unit)) x1).1.1,(slX (cutF ((d2.2.1,d2.2.2.1,()) : List Int × List (List Int) × Unit)) x1).1.2.1,()) : List Int × List (List Int) × Unit)).2.1 0 = true → ieq (stX (((slX (cutF ((d2.2.1,d2.2.2.1,()) : List Int × List (List Int) × Unit)) x1).1.1,(slX (cutF ((d2.2.1,d2.2.2.1,()) : List Int × List (List Int) × Unit)) x1).1.2.1,()) : List Int × List (List Int) × Unit)).2.1 0 = true ∧ ieq (stX (((slX (cutF ((d2.2.1,d2.2.2.1,()) : List Int × List (List Int) × Unit)) x1).1.1,(slX (cutF ((d2.2.1,d2.2.2.1,()) : List Int × List (List Int) × Unit)) x1).1.2.1,()) : List Int × List (List Int) × Unit)).2.1 0 = true ∧ small (stX (cutF (((cutF ((x0.1,x0.2.1,()) : List Int × List (List Int) × Unit)).1,(cutF ((x0.1,x0.2.1,()) : List Int × List (List Int) × Unit)).2.1,()) : List Int × List (List Int) × Unit))).1 ∧ ∀ (x3:List Int),List.Mem x3 (stX (cutF (((cutF ((x0.1,x0.2.1,()) : List Int × List (List Int) × Unit)).1,(cutF ((x0.1,x0.2.1,()) : List Int × List (List Int) × Unit)).2.1,()) : List Int × List (List Int) × Unit))).1 → small x3) (gd (ieq (stX (((slX (cutF ((d2.2.1,d2.2.2.1,()) : List Int × List (List Int) × Unit)) x1).1.1,(slX (cutF ((d2.2.1,d2.2.2.1,()) : List Int × List (List Int) × Unit)) x1).1.2.1,()) : List Int × List (List Int) × Unit)).2.1 0 = true → ieq (stX (((slX (cutF ((d2.2.1,d2.2.2.1,()) : List Int × List (List Int) × Unit)) x1).1.1,(slX (cutF ((d2.2.1,d2.2.2.1,()) : List Int × List (List Int) × Unit)) x1).1.2.1,()) : List Int × List (List Int) × Unit)).2.1 0 = true) (gd ((bif ieq (stX (((slX (cutF ((d2.2.1,d2.2.2.1,()) : List Int × List (List Int) × Unit)) x1).1.1,(slX (cutF ((d2.2.1,d2.2.2.1,()) : List Int × List (List Int) × Unit)) x1).1.2.1,()) : List Int × List (List Int) × Unit)).2.1 0 then eqL2 (stX (cutF (((cutF ((x0.1,x0.2.1,()) : List Int × List (List Int) × Unit)).1,(cutF ((x0.1,x0.2.1,()) : List Int × List (List Int) × Unit)).2.1,()) : List Int × List (List Int) × Unit))).1 (stX (((slX (cutF ((d2.2.1,d2.2.2.1,()) : List Int × List (List Int) × Unit)) x1).1.1,(slX (cutF ((d2.2.1,d2.2.2.1,()) : List Int × List (List Int) × Unit)) x1).1.2.1,()) : List Int × List (List Int) × Unit)).1 else false) = true → (bif ieq (stX (((slX (cutF ((d2.2.1,d2.2.2.1,()) : List Int × List (List Int) × Unit)) x1).1.1,(slX (cutF ((d2.2.1,d2.2.2.1,()) : List Int × List (List Int) × Unit)) x1).1.2.1,()) : List Int × List (List Int) × Unit)).2.1 0 then eqL2 (stX (cutF (((cutF ((x0.1,x0.2.1,()) : List Int × List (List Int) × Unit)).1,(cutF ((x0.1,x0.2.1,()) : List Int × List (List Int) × Unit)).2.1,()) : List Int × List (List Int) × Unit))).1 (stX (((slX (cutF ((d2.2.1,d2.2.2.1,()) : List Int × List (List Int) × Unit)) x1).1.1,(slX (cutF ((d2.2.1,d2.2.2.1,()) : List Int × List (List Int) × Unit)) x1).1.2.1,()) : List Int × List (List Int) × Unit)).1 else false) = true) (some (Lp.out ((bif bif ieq (stX (((slX (cutF ((d2.2.1,d2.2.2.1,()) : List Int × List (List Int) × Unit)) x1).1.1,(slX (cutF ((d2.2.1,d2.2.2.1,()) : List Int × List (List Int) × Unit)) x1).1.2.1,()) : List Int × List (List Int) × Unit)).2.1 0 then eqL2 (stX (cutF (((cutF ((x0.1,x0.2.1,()) : List Int × List (List Int) × Unit)).1,(cutF ((x0.1,x0.2.1,()) : List Int × List (List Int) × Unit)).2.1,()) : List Int × List (List Int) × Unit))).1 (stX (((slX (cutF ((d2.2.1,d2.2.2.1,()) : List Int × List (List Int) × Unit)) x1).1.1,(slX (cutF ((d2.2.1,d2.2.2.1,()) : List Int × List (List Int) × Unit)) x1).1.2.1,()) : List Int × List (List Int) × Unit)).1 else false then true else false,()) : Bool × Unit))))))))) ((1,(cutF ((x0.1,x0.2.1,()) : List Int × List (List Int) × Unit)).1,(cutF ((x0.1,x0.2.1,()) : List Int × List (List Int) × Unit)).2.1,()) : Int × List Int × List (List Int) × Unit)))))
noncomputable def g11_sh : List LSh:=LSh.mk (((2,TV.ref (0) 1 0 0) : Nat × TV) :: ((7,TV.v (Ty.int IntKind.i64)) : Nat × TV) :: ([] : List (Nat × TV))) (TB.cells (TV.v (Ty.slice (Ty.int IntKind.i64)) :: TV.v (Ty.slice (Ty.slice (Ty.int IntKind.i64))) :: ([] : List TV)) :: ([] : List TB)) :: ([] : List LSh)
end Go.Schur
set_option maxRecDepth 100000
namespace Go.Schur
open Go Go.Ab Go.Proofs
theorem SkOk.okRs {t : SkD} (h : SkOk t.1 t.2.1) : okRs t:=BedR.ok (bed_ok h)
theorem okL2_of {rows : List (List Int)} (h : SkOk [] rows) : okL2 rows:=(BedR.ok (bed_ok h)).2
set_option maxHeartbeats 2000000 in
theorem goal11 : con11.goal Try.prog (spOf [con42,con44,con43,con45,con34,con36,con27,con24]) g11_sh [] lm30:=by
 have e : (∀ (s : SkD) (row:Int),(small s.1 ∧ small s.2.1) → g11 s row = some (true,())) = con11.goal Try.prog (spOf [con42,con44,con43,con45,con34,con36,con27,con24]) g11_sh [] lm30:=by kernel_rfl
 rw [← e]
 rintro s row h0
 have es : ∀ t : SkD,((t.1,t.2.1,()) : SkD) = t:=fun _=>rfl
 have t12 : (cutF s).1.length ≤ 12:=by show (s.1.take 12).length ≤ 12;rw [List.length_take];omega
 have r12 : (cutF s).2.1.length ≤ 12:=tab_len
 have hr12 : ∀ r ∈ (cutF s).2.1,r.length ≤ 12:=fun r hr=>tab_row (r:=s.2.1) hr
 unfold g11
 simp only [es,cut_cut]
 have hcut : cutF (cutF s) = cutF s:=cut_cut
 generalize cutF s = t at *
 have s1 : small t.1 ∧ small t.2.1:=⟨by unfold small;omega,by unfold small;omega⟩
 have ok : okRs t:=⟨by omega,by omega,fun r hr=>by have:=hr12 r hr;omega⟩
 have okl : okL2 t.2.1:=ok.2
 have i0 : ieq 0 0 = true:=rfl
 have i2 : ieq 2 2 = true:=rfl
 have i20 : ieq 2 0 = false:=rfl
 rw [gd_pos h0,gd_pos s1,gd_pos ok]
 cases hq : (readF t).isSome with
 | false =>
  have e2 : stX t = ([],2,()):=by unfold stX;rw [if_neg (fun h=>by rw [hq] at h;cases h)]
  simp [e2,i2,i20,gd_true]
 | true =>
  have hS : SkOk t.1 t.2.1:=(read_iff (inner:=t.1) (rows:=t.2.1)).1 hq
  obtain ⟨a,q1,q2,q3,q4,q5⟩:=straight_ok hS
  have oka:=okL2_of q4
  have el2 : ∀ a,eqL2 a a = true:=fun a=>by simp [eqL2]
  simp only [q1,i0,q2,Bool.not_true,cond_false,gd_pos oka]
  refine whileO_rec (fun s : Int × SkD=>1 ≤ s.1 ∧ s.1 ≤ 9 ∧ s.2 = t) (fun s : Int × SkD=>(9 - s.1).toNat) (fun _=>(true,())) ?_ _ ⟨Int.le_refl 1,(by decide : (1:Int) ≤ 9),rfl⟩
  rintro ⟨k,t'⟩ ⟨k1,k2,k3⟩
  have k3 : t = t':=k3.symm
  subst k3
  simp only at k1 k2 ⊢
  by_cases hk : k ≤ 8
  ·refine .inr ⟨(k + 1,t),?_,⟨by show (1:Int) ≤ k + 1;omega,by show k + 1 ≤ 9;omega,by first | rfl | trivial⟩,by show (9 - (k + 1)).toNat < (9 - k).toNat;omega,by first | rfl | trivial⟩
   rw [cond_t (ile_iff.2 hk),gd_pos okl,q3,show wr .i64 (k + 1) = k + 1 from wr_id (by omega)]
   simp [ieq_d]
  ·refine .inl ?_
   rw [cond_f (ile_false.2 (by omega)),gd_pos s1,hcut,gd_pos ok]
   cases hc : crnB t.1 row with
   | false =>
    have e1 : slX t row = (([],[],()),2,()):=by unfold slX;rw [if_neg (fun h=>by rw [hc] at h;cases h.2)]
    simp [e1,i2,i20,gd_true]
   | true =>
    obtain ⟨nx,n1,n2,n3⟩:=q5 row hc
    have okn : okRs nx:=SkOk.okRs n2
    have sma : small a ∧ ∀ (x3:List Int),List.Mem x3 a → small x3:=by
     obtain ⟨_,m2,m3⟩:=BedR.small (bed_ok q4)
     exact ⟨m2,m3⟩
    rw [n1]
    simp only [i0,Bool.not_true,cond_false,gd_pos okn,n3,cond_true,el2,true_implies,true_and,gd_true]
    rw [gd_pos sma]
theorem ok11 : con11.Ok Try.prog:=Con.of_goal mixed (okC ok42 (okC ok44 (okC ok43 (okC ok45 (okC ok34 (okC ok36 (okC ok27 (okC ok24 okN)))))))) con11 goal11
end Go.Schur
namespace Go.Schur
open Go Go.Ab Go.Proofs
def okLs (a:List Int) : Prop:=a.length ≤ 8 ∧ ∀ x ∈ a,0 ≤ x ∧ x ≤ 8
structure preSk (n:Nat) (a c:List Int) (Y:List (List Int)) (left:List Int) (begun:List (List Int)) (i:Int) : Prop where
 oa : okLs a
 oc : okLs c
 ac : a.length ≤ c.length
 le : ∀ q : Nat,a.getD q 0 ≤ c.getD q 0
 len : begun.length = c.length
 ii : 0 ≤ i ∧ i ≤ (c.length:Int)
 row : ∀ q : Nat,((begun.getD q []).length:Int) ≤ c.getD q 0 - a.getD q 0
 lf : left.length = 8 ∧ ∀ x ∈ left,0 ≤ x ∧ x ≤ 96
 mu : 9 * (c.length - i.toNat) + (8 - (begun.getD i.toNat []).length) < n
end Go.Schur
set_option maxRecDepth 100000
namespace Go.Schur
open Go Go.Ab Go.Proofs
end Go.Schur
