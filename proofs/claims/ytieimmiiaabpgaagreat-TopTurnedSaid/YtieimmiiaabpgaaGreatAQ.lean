/- Soundness,tenth part: literals,make,append. -/
import Derived.Test.YtieimmiiaabpgaaGreatAO
import Derived.Laws.StructEq
import Derived.Laws.Tables
import Derived.MapKept
set_option linter.unusedVariables false
set_option linter.unusedSimpArgs false
namespace Go.Ab
section
variable {P:Program} {Γ:Cx} {H:List Hs} {w:World} {S:St} {a:Act}
theorem q0b {cs:Array Value} {te:Ty} {i:Nat} {L:List Value} (hL:L=(cs.toList.drop (i*sz te)).take (sz te)) {j:Nat} {v:Value} (h:L[j]?=some v):cs[i*sz te+j]?=some v:=by
 subst hL;rw [wat] at h;split at h
 ·rw [wbl] at h;simpa using h
 ·cases h
theorem qev {k:Nat} {te:Ty} {xs:List (Den te)} {opn:Bool} {cs:Array Value} {el:TypeId} (hh:w.heap[Γ.ν k]?=some (.cells cs el (0,0))) (hk:cs.size=Γ.κ k*sz te) (hle:xs.length≤Γ.κ k) (ho:opn=false→xs.length=Γ.κ k)
  (hx:∀ (i:Nat) (x:Den te),xs[i]?=some x→RepC w Γ.I te x ((cs.toList.drop (i*sz te)).take (sz te))):RepB w Γ k (.arr te xs opn):=by
 simp only [RepB];exact ⟨hle,ho,fun _=>⟨cs,el,hh,hk,fun i x hi=>⟨_,hx i x hi,fun j v hj=>q0b rfl hj⟩⟩⟩
theorem q1v (em:Emb Γ S a w) {nw:Nat} {t e:TypeId} {te:Ty} {inf:TypeInfo} {z:Value} {n:Nat} {ps:Array (Nat×Operand)} {x':Od}
  (hu:P.underlying t=some (.slice e)) (ht:tyS P e=some te) (hi:P.info? e=some inf) (hz:inf.zero=some z) (hl:qcn te 0 ps.toList=some [x']) (hn:[x'].length=n) (hzs:z.cells.size=sz te)
  {o:Oper} (ho:o.op=.buildSlice t n ps) (q:allP (peel (ev S.T x')).1) (hob:allP (litN S.H nw te (peel (ev S.T x')).2).ob) :
  Does P Γ S.H w (p1 (ev S.T x') (litN S.H nw te)) ((execOp a.eval o).run P w):=by
 have eh:=em.heap;have hpart:∃ x tx,ps.toList=[(0,x)]∧cOd tx x=some x':=by
  revert hl
  match ps.toList with
  | []=>intro hl;simp [qcn] at hl
  | (i,x)::r =>
   intro hl;simp only [qcn] at hl;split at hl
   ·rename_i od l h1 h2;split at hl
    ·rename_i hi0;cases hl;subst hi0;have hr:=qfm h2
     match r,hr with
     | [],_=>exact ⟨x,_,rfl,h1⟩
    ·cases hl
   ·cases hl
 obtain ⟨x,tx,hps,hx⟩:=hpart;have hr:=qah (qaj em hx) q;unfold p1
 revert hob
 generalize (peel (ev S.T x')).2=X at hr;intro hob;unfold litN at hob ⊢;split at hob
 case h_2=>exact qaa hob
 rename_i t' m s i len c;split at hob
 case h_2=>exact qaa hob
 rename_i t2 xs opn hg;split at hob
 case h_2=>exact qaa hob
 rename_i ys q2 hc hq
 by_cases hcond:qay S.H nw=true∧s=sz t'∧i=0
 case neg=>rw [if_neg hcond] at hob;exact qaa hob
 rw [if_pos hcond] at hob ⊢;obtain ⟨hf,rfl,rfl⟩:=hcond;obtain ⟨e1,e2⟩:=qbx hc;subst e1;subst e2;have hk:=qbp hf;have hm:=qaw hg;have hM:=eh.blk m _ hm;obtain ⟨o1,o2⟩:=qag.1 hob;have hlen:=allP_one.1 o1;have hh:=qvy hM (qor hq o2) hr;obtain ⟨v1,v2⟩:=q26 hh;have hn1:n=1:=by simpa using hn.symm
 subst hn1;have hkA:=qdw eh hk;have hmk:m≠nw:=fun h=>by rw [h,hk] at hm;cases hm
 obtain ⟨inf',d,hi',_,hsz,_⟩:=qbd ht;rw [hi] at hi';cases hi';have hs1:inf.size=1:=hsz;have hz1:z.cells.size=1:=hzs;have hrun:(execOp a.eval o).run P w=.ok (.value (.slice (some ⟨w.heap.size,0,none⟩) 1 1)) (w.alloc (.cells #[a.eval x] e)):=by
  have e1:(ps.map fun x=>(x.1,a.eval x.2)).toList=[(0,a.eval x)]:=by simp [hps]
  have hcs:(a.eval x).cells.size=1:=by rw [← Array.length_toList,v1];rfl
  have hfill:Instr.fill (fun i=>some (i,1)) ((Array.range 1).map (z.cells[· % z.cells.size]!)) [(0,a.eval x)]=some #[a.eval x]:=by
   simp only [Instr.fill,hcs];rw [if_neg (by simp),qko (by rw [hcs];simp),v1]
   simp [qbb,List.range_succ]
  simp only [execOp,ho,Instr.buildSlice,Sem.run_bind,run_underlying hu,wbp,sizeOf,typeInfo,run_program,hi,Sem.run_pure,hs1,zeroValue,hz,Nat.mul_one];rw [if_neg (by decide)]
  simp only [Nat.one_ne_zero,if_false,Sem.run_bind,run_program,wbp,hi,hz,Sem.run_pure,e1,hfill];simp [newRow]
 have hnewh:(w.alloc (.cells #[a.eval x] e)).heap[w.heap.size]?=some (.cells #[a.eval x] e (0,0)):=qc8;have hold:∀ n,n<w.heap.size→(w.alloc (.cells #[a.eval x] e)).heap[n]?=w.heap[n]?:=fun n hn=>qb8 hn
 have hNw:(EmbH { Γ.new nw w.heap.size 1 with R:=upd Γ.R nw (fun i=>if i=0 then (Γ.ν m,Γ.κ m) else (0,0)) } ((S.H.set m .dead).set nw (.live (.nest t2 [ys] none))) (w.alloc (.cells #[a.eval x] e)))∧Ext Γ S.H w { Γ.new nw w.heap.size 1 with R:=upd Γ.R nw (fun i=>if i=0 then (Γ.ν m,Γ.κ m) else (0,0)) } ((S.H.set m .dead).set nw (.live (.nest t2 [ys] none))) (w.alloc (.cells #[a.eval x] e)):=by
  have hget:∀ {d B},((S.H.set m .dead).set nw (.live (.nest t2 [ys] none)))[d]?=some (.live B)→(d=nw∧B=.nest t2 [ys] none)∨(d≠nw∧d≠m∧S.H[d]?=some (.live B)):=fun {d B} h=>by
   rcases qav h with ⟨h1,h2⟩ | ⟨h1,h⟩
   ·cases h2;exact .inl ⟨h1,rfl⟩
   ·rcases qav h with ⟨_,h⟩ | ⟨h2,h⟩
    ·cases h
    ·exact .inr ⟨h1,h2,h⟩
  have hal:∀ b,Γ.A b→({ Γ.new nw w.heap.size 1 with R:=upd Γ.R nw (fun i=>if i=0 then (Γ.ν m,Γ.κ m) else (0,0)) }:Cx).A b∧({ Γ.new nw w.heap.size 1 with R:=upd Γ.R nw (fun i=>if i=0 then (Γ.ν m,Γ.κ m) else (0,0)) }:Cx).ν b=Γ.ν b∧({ Γ.new nw w.heap.size 1 with R:=upd Γ.R nw (fun i=>if i=0 then (Γ.ν m,Γ.κ m) else (0,0)) }:Cx).κ b=Γ.κ b:=qie (n:=w.heap.size) (c:=1) eh hk
  have hkm:Γ.κ m≠0→Γ.ν m<w.heap.size:=fun h=>eh.lt ⟨_,hm⟩ h
  refine eh.stepP (fun _=>False) rfl hal (fun d=>?_) (fun n hn _=>hold n hn) (fun _ h=>h.elim)
   (fun q=>match q with | (d,none)=>if d=nw then none else some (d,none) | (d,some j)=>if d=nw then some (m,none) else some (d,some j)) (fun q hq h0=>?_) (fun q q' hq hq' h0 h0' heq=>?_) (fun d B hd=>?_) (eh.vw_keep hal (fun m' b' i' f' hm'=>?_) fun d t3 rows3 ho3 hdA hd=>?_) (by simp) rfl rfl
  ·simp only [Cx.new];refine ((show (Γ.A d∨d=nw)↔_ from ?_))
   by_cases hd:nw=d
   ·subst hd;rw [waw];simp [qbf hk]
   ·rw [wah hd];have hd':¬ d=nw:=fun h=>hd h.symm
    simp only [hd',or_false,eh.al];exact qjp hm (by simp) d
  ·obtain ⟨d,oo⟩:=q
   by_cases hd:d=nw
   ·subst hd
    cases oo with
    | none=>exact .inr ⟨by simp,by simp [plAt,Cx.new,upd],by simp [plAt,Cx.new,upd]⟩
    | some j =>
     refine .inl ⟨(m,none),by simp,⟨_,hm⟩,?_⟩
     simp only [plAt,qas] at h0 ⊢
     by_cases hj:j=0
     ·subst hj;exact ⟨h0,rfl⟩
     ·rw [if_neg hj] at h0;exact absurd rfl h0
   ·refine .inl ⟨(d,oo),by cases oo<;>simp [hd],?_⟩
    cases oo with
    | none =>
     obtain ⟨B,hB⟩:=hq
     rcases hget hB with ⟨h,_⟩ | ⟨_,h2,h3⟩
     ·exact absurd h hd
     ·simp only [plAt,Cx.new,qa6 hd] at h0 ⊢;exact ⟨⟨B,h3⟩,h0,trivial⟩
    | some j =>
     obtain ⟨t3,r3,o3,hB⟩:=hq
     rcases hget hB with ⟨h,_⟩ | ⟨_,h2,h3⟩
     ·exact absurd h hd
     ·simp only [plAt,qa6 hd] at h0 ⊢;exact ⟨⟨_,_,_,h3⟩,h0,trivial⟩
  ·obtain ⟨d,oo⟩:=q;obtain ⟨d',oo'⟩:=q';have nm:∀ {d:Nat},PlOk ((S.H.set m .dead).set nw (.live (.nest t2 [ys] none))) (d,none)→d≠m:=fun {d} ⟨B,hB⟩ h=>by
    rcases hget hB with ⟨h1,_⟩ | ⟨_,h2,_⟩
    ·exact hmk (h▸h1)
    ·exact h2 h
   cases oo with
   | none=>cases oo' with
    | none =>
     simp only at heq
     by_cases hd:d=nw<;>by_cases hd':d'=nw
     ·rw [hd,hd']
     ·rw [if_pos hd,if_neg hd'] at heq;cases heq
     ·rw [if_neg hd,if_pos hd'] at heq;cases heq
     ·rw [if_neg hd,if_neg hd'] at heq;cases heq;rfl
    | some j =>
     simp only at heq
     by_cases hd:d=nw
     ·rw [if_pos hd] at heq;split at heq<;>cases heq
     ·rw [if_neg hd] at heq;split at heq
      ·cases heq;exact absurd rfl (nm hq)
      ·cases heq
   | some j=>cases oo' with
    | none =>
     simp only at heq
     by_cases hd:d'=nw
     ·rw [if_pos hd] at heq;split at heq<;>cases heq
     ·rw [if_neg hd] at heq;split at heq
      ·cases heq;exact absurd rfl (nm hq')
      ·cases heq
    | some j' =>
     simp only at heq
     by_cases hd:d=nw<;>by_cases hd':d'=nw
     ·subst hd;subst hd';simp only [plAt,qas] at h0 h0'
      by_cases hj:j=0<;>by_cases hj':j'=0
      ·rw [hj,hj']
      ·rw [if_neg hj'] at h0';exact absurd rfl h0'
      ·rw [if_neg hj] at h0;exact absurd rfl h0
      ·rw [if_neg hj] at h0;exact absurd rfl h0
     ·rw [if_pos hd,if_neg hd'] at heq;cases heq
     ·rw [if_neg hd,if_pos hd'] at heq;cases heq
     ·rw [if_neg hd,if_neg hd'] at heq;cases heq;rfl
  ·rcases hget hd with ⟨rfl,rfl⟩ | ⟨h1,h2,h3⟩
   ·refine .inl (RepB.nest_of (c:=#[a.eval x]) (el:=e) (by simp [Cx.new,upd]) (fun _=>⟨by simpa [Cx.new,upd] using hnewh,by simp [Cx.new,upd]⟩) fun j hj=>?_)
    have hj0:j=0:=by simpa using hj
    subst hj0;simp only [qas,if_true];have hrow:qfh (w.alloc (.cells #[a.eval x] e)) Γ.I (Γ.ν m,Γ.κ m) t2 ys:=hM.row.mono (fun _ h=>h) (fun b hb=>hold b (eh.old b hb)) (fun h=>hold _ (hkm h))
    exact ⟨hrow,fun _=>⟨a.eval x,by simp,by simpa [hlen] using hh⟩⟩
   ·exact .inr ⟨h3,fun _=>id,fun _=>⟨qa6 h1,fun _ _=>id⟩⟩
  ·rcases qb3 hm' with ⟨_,h⟩ | ⟨_,h⟩
   ·cases h
   ·rcases qb3 h with ⟨_,h⟩ | ⟨_,h⟩
    ·cases h
    ·exact h
  ·have hne:d≠nw:=fun h=>hkA (h▸hdA)
   rcases hget hd with ⟨h,_⟩ | ⟨_,_,h⟩
   ·exact absurd h hne
   ·exact ⟨qa6 hne,t3,rows3,ho3,h,wad _⟩
 obtain ⟨Γ2,hΓ,hNw⟩:∃ Γ2:Cx,(Γ2.A nw∧Γ2.ν nw=w.heap.size)∧(EmbH Γ2 ((S.H.set m .dead).set nw (.live (.nest t2 [ys] none))) (w.alloc (.cells #[a.eval x] e)))∧Ext Γ S.H w Γ2 ((S.H.set m .dead).set nw (.live (.nest t2 [ys] none))) (w.alloc (.cells #[a.eval x] e)):=⟨_,⟨Or.inr rfl,by simp [Cx.new,upd]⟩,hNw⟩
 exact Does.new hrun rfl hNw (qca.2 ⟨hΓ.1,some ⟨w.heap.size,0,none⟩,1,rfl,rfl,fun _=>by rw [hΓ.2],wad _⟩)
theorem qtx (em:Emb Γ S a w) (sp:Spec) (base k:Nat) {t e:TypeId} {te:Ty} {inf:TypeInfo} {z:Value} {n:Nat} {ps:Array (Nat×Operand)} {l:List Od}
  (hu:P.underlying t=some (.slice e)) (ht:tyS P e=some te) (hi:P.info? e=some inf) (hz:inf.zero=some z) (hl:qcn te 0 ps.toList=some l) (hn:l.length=n) (hzs:z.cells.size=sz te) (hbig:n*sz te≤1000000)
  {o:Oper} (ho:o.op=.buildSlice t n ps)
  (hob:allP (aeff sp base S.T S.H (.bslicef k te l)).ob):Does P Γ S.H w (aeff sp base S.T S.H (.bslicef k te l)) ((execOp a.eval o).run P w):=by
 rw [aeff] at hob ⊢
 cases hb:qdn te S.T l with
 | none=>rw [hb] at hob;exact qaa hob
 | some u =>
  obtain ⟨q,xs⟩:=u;rw [hb] at hob;simp only at hob ⊢;split at hob
  ·rename_i hf;rw [if_pos hf];have hk:=qbp hf;obtain ⟨cs,hr,h1,h2,h3⟩:=qfx em hu ht hi hz hl hn hzs hbig hb hob ho;refine Does.new hr rfl (qen em.heap (c:=n) hk fun Γ' w' g1 g2 g3 g4=>?_) ?_
   ·exact qev g3 (by rw [g4];exact h1) (by rw [g4,h2];exact wad _) (fun h=>by cases h) (fun i x hx=>g2 _ _ _ (h3 i x hx))
   ·refine qca.2 ⟨.inr rfl,some ⟨w.heap.size,0,none⟩,n,?_,by subst hn;simp [Cx.new,upd],fun _=>by simp [Cx.new,upd],by omega⟩
    rw [hn]
  ·exact qaa hob
theorem qtr (em:Emb Γ S a w) (sp:Spec) (base k:Nat) {t e:TypeId} {te:Ty} {inf:TypeInfo} {z:Value} {n:Nat} {ps:Array (Nat×Operand)} {l:List Od}
  (hu:P.underlying t=some (.slice e)) (ht:tyS P e=some te) (hi:P.info? e=some inf) (hz:inf.zero=some z) (hl:qcn te 0 ps.toList=some l) (hn:l.length=n) (hzs:z.cells.size=sz te) (hbig:n*sz te≤1000000)
  {o:Oper} (ho:o.op=.buildSlice t n ps)
  (hob:allP (aeff sp base S.T S.H (.bslicem k te l)).ob):Does P Γ S.H w (aeff sp base S.T S.H (.bslicem k te l)) ((execOp a.eval o).run P w):=by
 rw [aeff] at hob ⊢
 cases hb:qdn te S.T l with
 | none =>
  rw [hb] at hob
  match l,hl,hn,hob with
  | [x'],hl,hn,hob =>
   obtain ⟨q,hob⟩:=qbh hob;exact q1v em hu ht hi hz hl hn hzs ho q hob
  | [],_,_,hob=>exact qaa hob
  | _::_::_,_,_,hob=>exact qaa hob
 | some u =>
  obtain ⟨q,xs⟩:=u;rw [hb] at hob;simp only at hob ⊢;split at hob
  ·rename_i hf;rw [if_pos hf];have hk:=qbp hf;obtain ⟨cs,hr,h1,h2,h3⟩:=qfx em hu ht hi hz hl hn hzs hbig hb hob ho;refine Does.new hr rfl (qen em.heap (c:=n) hk fun Γ' w' g1 g2 g3 g4=>?_) ?_
   ·exact qev g3 (by rw [g4];exact h1) (by rw [g4,h2];exact wad _) (fun _=>by rw [g4,h2]) (fun i x hx=>g2 _ _ _ (h3 i x hx))
   ·refine qca.2 ⟨.inr rfl,some ⟨w.heap.size,0,none⟩,n,?_,by subst hn;cases l<;>simp [Cx.new,upd],fun _=>by simp [Cx.new,upd],by omega⟩
    rw [hn]
  ·exact qaa hob
theorem qjt {T:List AV} {te:Ty} {x y:Od} {l:List Od}:frzL H T te (x::y::l)=.fail:=by cases x<;>rfl
theorem q3m (e:EmbH Γ H w) {b:Nat} {B:Blk} (hb:H[b]?=some (.live B)) :
  Ext Γ H w { Γ with I:=fun n=>Γ.I n∨(Γ.κ b≠0∧n=Γ.ν b)∨(Nest H b∧Γ.O b n) } (H.set b .dead) w∧EmbH { Γ with I:=fun n=>Γ.I n∨(Γ.κ b≠0∧n=Γ.ν b)∨(Nest H b∧Γ.O b n) } (H.set b .dead) w:=by
 have hlt:b<H.length:=by
  rcases Nat.lt_or_ge b H.length with h | h
  ·exact h
  ·rw [wac h] at hb;cases hb
 have hget:∀ c,(H.set b .dead)[c]?=if c=b then some .dead else H[c]?:=fun c=>by
  rw [waw]
  by_cases h:b=c
  ·subst h;simp [hlt]
  ·rw [if_neg h,if_neg (fun h'=>h h'.symm)]
 have hl:∀ {c:Nat} {B':Blk},(H.set b .dead)[c]?=some (.live B')→c≠b∧H[c]?=some (.live B'):=fun {c B'} h=>by
  rw [hget] at h;split at h
  ·cases h
  ·exact ⟨by assumption,h⟩
 refine ⟨⟨fun _ _ _=>rfl,wad _,rfl,rfl,fun n hw=>.inl ?_,fun n hn=>?_,fun _ h=>.inl h,fun _ h=>⟨h,rfl,rfl⟩⟩,?_⟩
 ·rcases hw with ⟨c,⟨B',hc⟩,hk,he⟩ | ⟨c,⟨t,r,o,hc⟩,hn⟩
  ·exact .inl ⟨c,⟨B',(hl hc).2⟩,hk,he⟩
  ·exact .inr ⟨c,⟨t,r,o,(hl hc).2⟩,hn⟩
 ·rcases hn with h | ⟨hk,rfl⟩ | ⟨hN,hn⟩
  ·exact .inl h
  ·exact .inr (.inl (.inl ⟨b,⟨B,hb⟩,hk,rfl⟩))
  ·exact .inr (.inl (.inr ⟨b,hN,hn⟩))
 ·refine ⟨fun c B' hc=>?_,fun c c' ⟨B1,h1⟩ ⟨B2,h2⟩=>e.inj c c' ⟨B1,(hl h1).2⟩ ⟨B2,(hl h2).2⟩,fun c ⟨B',hc⟩ hk hI=>?_,fun n hn=>?_,fun c=>?_,
   ⟨fun c c' n ⟨t,r,o,h⟩ ⟨t',r',o',h'⟩=>e.rows.dis c c' n ⟨t,r,o,(hl h).2⟩ ⟨t',r',o',(hl h').2⟩,fun c c' n ⟨t,r,o,h⟩ ⟨B',h'⟩=>e.rows.main c c' n ⟨t,r,o,(hl h).2⟩ ⟨B',(hl h').2⟩,fun c n ⟨t,r,o,h⟩ ho hI=>?_,fun c n ⟨t,r,o,h⟩=>e.rows.lt c n ⟨t,r,o,(hl h).2⟩,fun c i i' ⟨t,r,o,h⟩=>e.rows.one c i i' ⟨t,r,o,(hl h).2⟩⟩,
   (e.vw_keep (Γ':=Γ) (fun _ h=>⟨h,rfl,rfl⟩) (fun m c i f hm=>?_) fun c t rows ho _ hc=>⟨rfl,t,rows,ho,(hl hc).2,wad _⟩)⟩
  ·have hB:=(hl hc).2;exact RepB.mono (fun _ h=>.inl h) (fun _ _=>rfl) (fun _ h=>⟨h,rfl,rfl⟩) (e.alive ⟨B',hB⟩) (fun _=>rfl) (fun _ _ _ _=>⟨rfl,fun _ _=>rfl⟩) (e.blk c B' hB)
  ·obtain ⟨hne,hB⟩:=hl hc
   rcases hI with h | ⟨hkb,h⟩ | ⟨hN,h⟩
   ·exact e.imm c ⟨B',hB⟩ hk h
   ·exact hne (e.inj c b ⟨B',hB⟩ ⟨B,hb⟩ hk hkb h)
   ·exact e.rows.main b c _ hN ⟨B',hB⟩ hk h rfl
  ·rcases hn with h | ⟨hk,rfl⟩ | ⟨hN,h⟩
   ·exact e.old n h
   ·exact e.lt ⟨B,hb⟩ hk
   ·exact e.rows.lt b n hN h
  ·refine (e.al c).trans ?_;rw [hget]
   by_cases h:c=b
   ·subst h;rw [if_pos rfl];exact ⟨fun _=>⟨.dead,rfl,by simp⟩,fun _=>⟨_,hb,by simp⟩⟩
   ·rw [if_neg h]
  ·obtain ⟨hne,hB⟩:=hl h
   rcases hI with h | ⟨hkb,h⟩ | ⟨hN,h⟩
   ·exact e.rows.imm c n ⟨_,_,_,hB⟩ ho h
   ·exact e.rows.main c b n ⟨_,_,_,hB⟩ ⟨B,hb⟩ hkb ho h.symm
   ·exact hne (e.rows.dis c b n ⟨_,_,_,hB⟩ hN ho h)
  ·rcases qb3 hm with ⟨_,h⟩ | ⟨_,h⟩
   ·cases h
   ·exact h
theorem q3b {b s i len:Nat} {c:Option Nat} {t':Ty} {ys:List (Den t')} {I':Nat→Prop} (hlen:i+len≤ys.length) (hs:s=sz t') (hel:∀ (j:Nat) (x:Den t'),ys[j]?=some x→∃ cs,RepC w I' t' x cs∧I' (Γ.ν b)∧qa1 w (Γ.ν b) (j*sz t') cs) {v:Value} (hv:Ra w Γ (.sl b s i len c) v) :
  RepV w I' (.slice t') ((ys.drop i).take len) v:=by
 subst hs;obtain ⟨hA,ad,cap,rfl,h1,h2,h3⟩:=qca.1 hv;have hl2:((ys.drop i).take len).length=len:=by rw [wan,wav];omega
 refine qb0.2 ⟨ad,cap,by rw [hl2],by rw [hl2];exact h3,fun h=>?_,fun j x hj=>?_⟩
 ·by_cases hc:cap=0
  ·exact hc
  ·rw [h2 hc] at h;cases h
 ·have hj':j<len:=by
   rcases Nat.lt_or_ge j len with h | h
   ·exact h
   ·rw [wac (by omega)] at hj;cases hj
  have hcap:cap≠0:=by omega
  rw [wat,if_pos hj',wbl] at hj;obtain ⟨cs,m1,m2,m3⟩:=hel _ _ hj;refine ⟨Γ.ν b,i*sz t',cs,h2 hcap,m2,m1,?_⟩;rw [← Nat.add_mul];exact m3
theorem qxb (e:EmbH Γ H w) {te:Ty} {x:AV} (h:allP (frzE H te x).ob):∃ (t:Ty) (b s i len:Nat) (c:Option Nat) (ys:List (Den t)) (B:Blk),
  te=.slice t∧x=.sl b s i len c∧H[b]?=some (.live B)∧frzE H te x=⟨[i+len≤ys.length],.val (.slice (.slice t)) [(ys.drop i).take len],[(b,.dead)],[b]⟩ ∧
  ∀ v:Value,Ra w Γ x v→RepV w (fun n=>Γ.I n∨(Γ.κ b≠0∧n=Γ.ν b)∨(Nest H b∧Γ.O b n)) (.slice t) ((ys.drop i).take len) v:=by
 unfold frzE at h ⊢;split at h
 ·rename_i t b s i len c;split at h
  ·rename_i t' xs opn hg;have hb:=qaw hg;split at h
   ·rename_i ys hc;obtain ⟨e1,e2⟩:=qbx hc;cases e1;subst e2;split at h
    ·rename_i hs;have h1:=allP_one.1 h;refine ⟨_,b,s,i,len,c,ys,_,rfl,rfl,hb,?_,fun v hv=>q3b h1 hs (fun j x hj=>?_) hv⟩
     ·simp only [hg,hc,if_pos hs]
     ·have hB:=e.blk b _ hb;obtain ⟨cs,m1,m2⟩:=qw5 hB hj;have hk:Γ.κ b≠0:=by
       simp only [RepB] at hB;have:=(List.getElem?_eq_some_iff.1 hj).1;omega
      exact ⟨cs,RepC.mono (fun _ h=>.inl h) (fun _ _=>rfl) _ _ _ m1,.inr (.inl ⟨hk,rfl⟩),m2⟩
    ·exact qaa h
   ·exact qaa h
  ·rename_i t' rows hg;have hb:=qaw hg;split at h
   ·rename_i ys hc;obtain ⟨e1,e2⟩:=qbx hc;subst e1;subst e2;split at h
    ·rename_i hs;have h1:=allP_one.1 h;refine ⟨_,b,s,i,len,c,ys,_,rfl,rfl,hb,?_,fun v hv=>q3b h1 (t':=.slice t') hs (fun j x hj=>?_) hv⟩
     ·simp only [hg,hc,if_pos hs]
     ·have hB:=e.blk b _ hb;obtain ⟨u,m1,m2⟩:=qsh (I':=fun n=>Γ.I n∨(Γ.κ b≠0∧n=Γ.ν b)∨(Nest H b∧Γ.O b n)) hB (fun _ h=>.inl h) (fun n hn=>.inr (.inr ⟨⟨_,_,_,hb⟩,hn⟩)) hj
      have hk:Γ.κ b≠0:=hB.nest_ne (List.getElem?_eq_some_iff.1 hj).1;exact ⟨[u],m1,.inr (.inl ⟨hk,rfl⟩),by simpa [sz] using m2⟩
    ·exact qaa h
   ·exact qaa h
  ·exact qaa h
 ·exact qaa h
theorem q6c (em:Emb Γ S a w) (sp:Spec) (base:Nat) {t e:TypeId} {te:Ty} {inf:TypeInfo} {z:Value} {n:Nat} {ps:Array (Nat×Operand)} {j:Nat}
  (hu:P.underlying t=some (.slice e)) (ht:tyS P e=some te) (hi:P.info? e=some inf) (hz:inf.zero=some z) (hl:qcn te 0 ps.toList=some [.t j]) (hn:[Od.t j].length=n) (hzs:z.cells.size=sz te) (hbig:n*sz te≤1000000)
  {o:Oper} (ho:o.op=.buildSlice t n ps) (q:allP (peel (S.T.getD j .undef)).1) (hob:allP (frzE S.H te (peel (S.T.getD j .undef)).2).ob) :
  Does P Γ S.H w (p1 (S.T.getD j .undef) (frzE S.H te)) ((execOp a.eval o).run P w):=by
 obtain ⟨t',b,s,i,len,c,xs,B,rfl,hx,hb,he,hrep⟩:=qxb em.heap hob;unfold p1;rw [he];obtain ⟨ext1,emb1⟩:=q3m em.heap hb;have hT:(S.T.set j (.val (.slice t') ((xs.drop i).take len))).length=S.T.length:=by simp
 have hjx:∀ x,S.T[j]?=some x→∃ v,a.tmps[j]?=some v∧Ra w Γ x v:=fun x hx=>em.tmp j x hx
 have hjT:∃ x,S.T[j]?=some x:=by
  cases h:S.T[j]? with
  | some x=>exact ⟨x,rfl⟩
  | none =>
   rw [waa,h] at hx;simp [peel] at hx
 obtain ⟨y,hy⟩:=hjT;have hgy:S.T.getD j .undef=y:=by rw [waa,hy];rfl
 have em':Emb { Γ with I:=fun n=>Γ.I n∨(Γ.κ b≠0∧n=Γ.ν b)∨(Nest S.H b∧Γ.O b n) } ⟨S.T.set j (.val (.slice t') ((xs.drop i).take len)),S.H.set b .dead⟩ a w:=by
  refine ⟨em.defers,by rw [em.size];exact hT.symm,fun m x hm=>?_,emb1⟩
  simp only [waw] at hm;split at hm
  ·rename_i hjm;subst hjm;split at hm
   ·cases hm;obtain ⟨v,hv,hr⟩:=em.tmp j y hy;rw [hgy] at q hrep;exact ⟨v,hv,Ra_val.2 (hrep v (qah hr q))⟩
   ·cases hm
  ·obtain ⟨v,hv,hr⟩:=em.tmp m x hm;exact ⟨v,hv,Ra.ext em.heap ext1 hr⟩
 have hb':qdn (.slice t') (S.T.set j (.val (.slice t') ((xs.drop i).take len))) [.t j]=some ([],[(xs.drop i).take len]):=by
  have hjl:j<S.T.length:=by
   rcases Nat.lt_or_ge j S.T.length with h | h
   ·exact h
   ·rw [wac h] at hy;cases hy
  have:ev (S.T.set j (.val (.slice t') ((xs.drop i).take len))) (.t j)=.val (.slice t') ((xs.drop i).take len):=by
   simp only [ev,waa,waw,if_true,hjl];rfl
  have hcd:qa9 (.slice t') (.slice t') ((xs.drop i).take len)=some ((xs.drop i).take len):=qcl;simp only [qdn,this,peel,wbo];simp only [hcd];rfl
 obtain ⟨cs,hr,h1,h2,h3⟩:=qfx em' hu ht hi hz hl hn hzs hbig hb' allP_nil ho;have hN:=emb1.newI (w':=w.alloc (.cells cs e)) (fun n hn=>qb8 hn) (by simp) rfl rfl
 refine .inl ⟨_,_,_,.inl hr,ext1.trans hN.2,hN.1,Ra_val.2 (qb0.2 ⟨some ⟨w.heap.size,0,none⟩,n,congrArg (fun m=>Value.slice (some ⟨w.heap.size,0,none⟩) m n) h2.symm,Nat.le_of_eq h2,by simp,fun i x hx=>?_⟩)⟩
 refine ⟨w.heap.size,0,(cs.toList.drop (i*sz (.slice t'))).take (sz (.slice t')),rfl,.inr ⟨wad _,by simp⟩,?_,fun j v hj=>?_⟩
 ·exact RepC.mono (fun _ h=>.inl h) (fun b hb=>qb8 (emb1.old b hb)) _ x _ (h3 i x hx)
 ·have:=q0b (cs:=cs) rfl hj;simp only [World.cell?,qc8,Option.isSome_none,wa2,if_false,wa7];exact this
theorem qvc (em:Emb Γ S a w) (sp:Spec) (base:Nat) {t e:TypeId} {te:Ty} {inf:TypeInfo} {z:Value} {n:Nat} {ps:Array (Nat×Operand)} {l:List Od}
  (hu:P.underlying t=some (.slice e)) (ht:tyS P e=some te) (hi:P.info? e=some inf) (hz:inf.zero=some z) (hl:qcn te 0 ps.toList=some l) (hn:l.length=n) (hzs:z.cells.size=sz te) (hbig:n*sz te≤1000000)
  {o:Oper} (ho:o.op=.buildSlice t n ps)
  (hob:allP (aeff sp base S.T S.H (.bslice te l)).ob):Does P Γ S.H w (aeff sp base S.T S.H (.bslice te l)) ((execOp a.eval o).run P w):=by
 rw [aeff] at hob ⊢
 cases hb:qdn te S.T l with
 | none =>
  rw [hb] at hob;simp only at hob ⊢
  match l,hl,hn,hob with
  | [.k c],_,_,hob=>exact qaa hob
  | [.t j],hl,hn,hob =>
   obtain ⟨q,hob⟩:=qbh hob;exact q6c em sp base hu ht hi hz hl hn hzs hbig ho q hob
  | [],_,_,hob=>exact qaa hob
  | x1::x2::r,_,_,hob=>exact qaa (by rw [qjt] at hob;exact hob)
 | some u =>
  obtain ⟨q,xs⟩:=u;rw [hb] at hob;simp only at hob ⊢;obtain ⟨cs,hr,h1,h2,h3⟩:=qfx em hu ht hi hz hl hn hzs hbig hb hob ho;have hN:=em.heap.newI (w':=w.alloc (.cells cs e)) (fun n hn=>qb8 hn) (by simp) rfl rfl
  refine Does.new hr rfl hN (Ra_val.2 (qb0.2 ⟨_,n,by rw [h2],by omega,by simp,fun i x hx=>?_⟩))
  refine ⟨w.heap.size,0,(cs.toList.drop (i*sz te)).take (sz te),rfl,.inr ⟨wad _,by simp⟩,?_,fun j v hj=>?_⟩
  ·exact RepC.mono (fun _ h=>.inl h) (fun b hb=>qb8 (em.heap.old b hb)) te x _ (h3 i x hx)
  ·have:=q0b (cs:=cs) rfl hj;simp only [World.cell?,qc8,Option.isSome_none,wa2,if_false,wa7];exact this
theorem qxl (em:Emb Γ S a w) (sp:Spec) (base k:Nat) {t e:TypeId} {te:Ty} {inf:TypeInfo} {z:Value} {n:Nat} {ps:Array (Nat×Operand)}
  (hu:P.underlying t=some (.slice e)) (ht:tyS P e=some (.slice te)) (hi:P.info? e=some inf) (hz:inf.zero=some z) (hl:qcn (.slice te) 0 ps.toList=some []) (hn:([]:List Od).length=n) (hzs:z.cells.size=sz (.slice te)) (hbig:n*sz (.slice te)≤1000000)
  {o:Oper} (ho:o.op=.buildSlice t n ps)
  (hob:allP (aeff sp base S.T S.H (.nnest k te)).ob):Does P Γ S.H w (aeff sp base S.T S.H (.nnest k te)) ((execOp a.eval o).run P w):=by
 rw [aeff] at hob ⊢;split at hob
 ·rename_i hf;rw [if_pos hf];have hk:=qbp hf;obtain ⟨cs,hr,h1,h2,h3⟩:=qfx em hu ht hi hz hl hn hzs hbig (q:=[]) (xs:=([]:List (Den (.slice te)))) rfl allP_nil ho;have hn0:n=0:=hn.symm;subst hn0;have hold:∀ n,n<w.heap.size→(w.alloc (.cells cs e)).heap[n]?=w.heap[n]?:=fun n hn=>qb8 hn
  refine Does.new hr rfl (em.heap.alloc (c:=0) hk hold (by simp) rfl rfl (RepB.nest_of (c:=cs) (el:=e) (Nat.zero_le _) (fun h=>absurd (by simp [Cx.new,upd]) h) fun j hj=>absurd hj (Nat.not_lt_zero _))) ?_
  exact qca.2 ⟨.inr rfl,some ⟨w.heap.size,0,none⟩,0,rfl,by simp [Cx.new,upd],fun h=>absurd rfl h,wad _⟩
 ·exact qaa hob
theorem q2f (em:Emb Γ S a w) (sp:Spec) (base k:Nat) {m:Bool} {t e:TypeId} {te:Ty} {inf:TypeInfo} {z:Value} {n:Nat} {ps:Array (Nat×Operand)} {l:List Od}
  (hu:P.underlying t=some (.slice e)) (ht:tyS P e=some te) (hi:P.info? e=some inf) (hz:inf.zero=some z) (hl:qcn te 0 ps.toList=some l) (hn:l.length=n) (hzs:z.cells.size=sz te) (hbig:n*sz te≤1000000)
  {o:Oper} (ho:o.op=.buildSlice t n ps)
  (hob:allP (aeff sp base S.T S.H (bsOp m k te l)).ob):Does P Γ S.H w (aeff sp base S.T S.H (bsOp m k te l)) ((execOp a.eval o).run P w):=by
 unfold bsOp at hob ⊢;split at hob
 ·exact qxl em sp base k hu ht hi hz hl hn hzs hbig ho hob
 ·exact qtx em sp base k hu ht hi hz hl hn hzs hbig ho hob
 ·exact qvc em sp base hu ht hi hz hl hn hzs hbig ho hob
theorem qs9 (em:Emb Γ S a w) (sp:Spec) (base k:Nat) {t e:TypeId} {te:Ty} {inf:TypeInfo} {z:Value} {zd:Den te} {n c:Operand} {n' c':Od} {tn tc:Option Ty}
  (hu:P.underlying t=some (.slice e)) (ht:tyS P e=some te) (hi:P.info? e=some inf) (hz:inf.zero=some z) (hd:qd7 te z.cells.toList=some zd) (hzs:z.cells.size=sz te) (hb0:0<inf.bytes) (hsz0:0<sz te)
  (hn:cOd tn n=some n') (hc:cOd tc c=some c') {o:Oper} (ho:o.op=.makeSlice t n c)
  (hob:allP (aeff sp base S.T S.H (.mkslice k te zd inf.bytes n' c')).ob):Does P Γ S.H w (aeff sp base S.T S.H (.mkslice k te zd inf.bytes n' c')) ((execOp a.eval o).run P w):=by
 obtain ⟨inf',d,hi',_,hsz,_⟩:=qbd ht;rw [hi] at hi';cases hi';have r1:=qaj em hn;have r2:=qaj em hc;rw [aeff] at hob ⊢;have hob0:=qbh hob;clear hob;obtain ⟨p,hob⟩:=hob0;have hob0:=qbh hob;clear hob;obtain ⟨q,hob⟩:=hob0;have r1:=qah r1 p;have r2:=qah r2 q
 revert hob
 dsimp only [p1]
 cases h1:asInt (peel (ev S.T n')).2 with
 | none=>exact fun hob=>qaa hob
 | some u=>cases h2:asInt (peel (ev S.T c')).2 with
  | none=>exact fun hob=>qaa hob
  | some v =>
   obtain ⟨k1,m⟩:=u;obtain ⟨k2,cc⟩:=v;simp only;intro hob;split at hob
   ·rename_i hf;rw [if_pos hf];have hk:=qbp hf;obtain ⟨b1,b2,b3⟩:=allP_one.1 hob;have e1:=qbe h1 r1;have e2:=qbe h2 r2;have hcc:cc≤1099511627776:=Int.le_trans (by
     have:cc*1≤cc*(inf.bytes:Int):=Int.mul_le_mul_of_nonneg_left (by omega) (by omega)
     omega) b3
    have w1:IntKind.i64.wrap m=m:=IntWalk.i64_in _ (by omega)
    have w2:IntKind.i64.wrap cc=cc:=IntWalk.i64_in _ (by omega)
    have hbb:(inf.bytes:Int)*cc≤1099511627776:=by rw [Int.mul_comm];exact b3
    have t1:¬ ((2:Int) ^ 48<(inf.bytes:Int)*cc):=by omega
    have t2:¬ (cc<0):=by omega
    have t3:¬ (m<0):=by omega
    have t4:¬ (cc<m):=by omega
    let cells:Array Value:=(Array.range (cc.toNat*sz te)).map (z.cells[· % z.cells.size]!)
    have hrun:(execOp a.eval o).run P w=.ok (.value (.slice (some ⟨w.heap.size,0,none⟩) m.toNat cc.toNat)) (w.alloc (.cells cells e)):=by
     have hcells:(Array.range (cc.toNat*sz te)).map ((if cc.toNat*sz te=0 then (#[]:Array Value) else z.cells)[· % (if cc.toNat*sz te=0 then (#[]:Array Value) else z.cells).size]!)=cells:=by
      by_cases h0:cc.toNat*sz te=0
      ·simp only [cells,h0];have hr0:Array.range 0=(#[]:Array Nat):=rfl;rw [hr0];simp
      ·simp [cells,h0]
     have main:(Instr.makeSlice t (.int k1 m) (.int k2 cc)).run P w=.ok (.slice (some ⟨w.heap.size,0,none⟩) m.toNat cc.toNat) (w.alloc (.cells cells e)):=by
      unfold Instr.makeSlice;simp only [Sem.run_bind,run_underlying hu,wbp,Go.asInt,asIntOf,Sem.run_pure,typeInfo,run_program,hi,w1,w2,sizeOf,hsz];simp only [wbe,wba];rw [if_neg (by
       rintro ((h | h) | h)
       ·rcases h with h | h
        ·exact t2 h
        ·exact t1 h
       ·exact t3 h
       ·exact t4 h)]
      simp only [Sem.run_bind,run_askRoom,wbp,run_program,hi,Sem.run_pure,hsz]
      by_cases h0:cc.toNat*sz te=0
      ·simp only [h0,if_true,Sem.run_pure,wbp,newRow,Sem.run_bind,run_newObj];simp only [h0,if_true] at hcells;rw [hcells];rfl
      ·simp only [h0,if_false,Sem.run_bind,zeroValue,typeInfo,run_program,wbp,hi,hz,Sem.run_pure,newRow,run_newObj];simp only [h0,if_false] at hcells;rw [hcells];rfl
     simp only [execOp,ho,e1,e2,Sem.run_bind,main,wbp,Sem.run_pure]
    have hcs:cells.size=cc.toNat*sz te:=by simp [cells]
    refine Does.new hrun rfl (qen em.heap (c:=cc.toNat) hk fun Γ' w' g1 g2 g3 g4=>?_) ?_
    ·refine qev g3 (by rw [g4];exact hcs) (by rw [g4];simp;omega) (by simp) (fun i x hx=>?_)
     have hlt:i<m.toNat:=by
      rcases Nat.lt_or_ge i m.toNat with h | h
      ·exact h
      ·rw [wac (by simpa using h)] at hx;cases hx
     rw [wax,if_pos hlt] at hx;cases hx;have hzc:=qcx (w:=w') (I:=Γ'.I) te _ _ hd;have:(cells.toList.drop (i*sz te)).take (sz te)=z.cells.toList:=by
      apply List.ext_getElem?;intro j;rw [wat]
      by_cases hj:j<sz te
      ·rw [if_pos hj,wbl];have hfit:i*sz te+j<cc.toNat*sz te:=by
        have:(i+1)*sz te≤cc.toNat*sz te:=Nat.mul_le_mul_right _ (by omega)
        rw [Nat.succ_mul] at this;omega
       have hmod:(i*sz te+j) % z.cells.size=j:=by
        rw [hzs,Nat.add_comm,Nat.add_mul_mod_self_right,Nat.mod_eq_of_lt hj]
       simp only [cells,Array.toList_map,wao,Array.toList_range,List.getElem?_range hfit,Option.map_some,hmod];have hjz:j<z.cells.size:=by omega
       rw [getElem!_pos z.cells j hjz];simp [hjz]
      ·rw [if_neg hj,wac (by simp;omega)]
     rw [this];exact hzc
    ·exact qca.2 ⟨.inr rfl,some ⟨w.heap.size,0,none⟩,cc.toNat,rfl,by simp [Cx.new,upd],fun _=>by simp [Cx.new,upd],by omega⟩
   ·exact qaa hob
theorem qt3 (em:Emb Γ S a w) (sp:Spec) (base k:Nat) {t e:TypeId} {te':Ty} {inf:TypeInfo} {z:Value} {zd:Den (.slice te')} {n c:Operand} {n' c':Od} {tn tc:Option Ty}
  (hu:P.underlying t=some (.slice e)) (ht:tyS P e=some (.slice te')) (hi:P.info? e=some inf) (hz:inf.zero=some z) (hd:qd7 (.slice te') z.cells.toList=some zd) (hzs:z.cells.size=sz (.slice te')) (hb0:0<inf.bytes) (hsz0:0<sz (.slice te'))
  (hn:cOd tn n=some n') (hc:cOd tc c=some c') {o:Oper} (ho:o.op=.makeSlice t n c)
  (hob:allP (aeff sp base S.T S.H (.mknest k te' inf.bytes n' c')).ob):Does P Γ S.H w (aeff sp base S.T S.H (.mknest k te' inf.bytes n' c')) ((execOp a.eval o).run P w):=by
 obtain ⟨inf',d,hi',_,hsz,_⟩:=qbd ht;rw [hi] at hi';cases hi';have r1:=qaj em hn;have r2:=qaj em hc;rw [aeff] at hob ⊢;have hob0:=qbh hob;clear hob;obtain ⟨p,hob⟩:=hob0;have hob0:=qbh hob;clear hob;obtain ⟨q,hob⟩:=hob0;have r1:=qah r1 p;have r2:=qah r2 q
 revert hob
 dsimp only [p1]
 cases h1:asInt (peel (ev S.T n')).2 with
 | none=>exact fun hob=>qaa hob
 | some u=>cases h2:asInt (peel (ev S.T c')).2 with
  | none=>exact fun hob=>qaa hob
  | some v =>
   obtain ⟨k1,m⟩:=u;obtain ⟨k2,cc⟩:=v;simp only;intro hob;split at hob
   ·rename_i hf;rw [if_pos hf];have hk:=qbp hf;obtain ⟨b1,b2,b3⟩:=allP_one.1 hob;have e1:=qbe h1 r1;have e2:=qbe h2 r2;have hcc:cc≤1099511627776:=Int.le_trans (by
     have:cc*1≤cc*(inf.bytes:Int):=Int.mul_le_mul_of_nonneg_left (by omega) (by omega)
     omega) b3
    have w1:IntKind.i64.wrap m=m:=IntWalk.i64_in _ (by omega)
    have w2:IntKind.i64.wrap cc=cc:=IntWalk.i64_in _ (by omega)
    have hbb:(inf.bytes:Int)*cc≤1099511627776:=by rw [Int.mul_comm];exact b3
    have t1:¬ ((2:Int) ^ 48<(inf.bytes:Int)*cc):=by omega
    have t2:¬ (cc<0):=by omega
    have t3:¬ (m<0):=by omega
    have t4:¬ (cc<m):=by omega
    let cells:Array Value:=(Array.range (cc.toNat*sz (.slice te'))).map (z.cells[· % z.cells.size]!)
    have hrun:(execOp a.eval o).run P w=.ok (.value (.slice (some ⟨w.heap.size,0,none⟩) m.toNat cc.toNat)) (w.alloc (.cells cells e)):=by
     have hcells:(Array.range (cc.toNat*sz (.slice te'))).map ((if cc.toNat*sz (.slice te')=0 then (#[]:Array Value) else z.cells)[· % (if cc.toNat*sz (.slice te')=0 then (#[]:Array Value) else z.cells).size]!)=cells:=by
      by_cases h0:cc.toNat*sz (.slice te')=0
      ·simp only [cells,h0];have hr0:Array.range 0=(#[]:Array Nat):=rfl;rw [hr0];simp
      ·simp [cells,h0]
     have main:(Instr.makeSlice t (.int k1 m) (.int k2 cc)).run P w=.ok (.slice (some ⟨w.heap.size,0,none⟩) m.toNat cc.toNat) (w.alloc (.cells cells e)):=by
      unfold Instr.makeSlice;simp only [Sem.run_bind,run_underlying hu,wbp,Go.asInt,asIntOf,Sem.run_pure,typeInfo,run_program,hi,w1,w2,sizeOf,hsz];simp only [wbe,wba];rw [if_neg (by
       rintro ((h | h) | h)
       ·rcases h with h | h
        ·exact t2 h
        ·exact t1 h
       ·exact t3 h
       ·exact t4 h)]
      simp only [Sem.run_bind,run_askRoom,wbp,run_program,hi,Sem.run_pure,hsz]
      by_cases h0:cc.toNat*sz (.slice te')=0
      ·simp only [h0,if_true,Sem.run_pure,wbp,newRow,Sem.run_bind,run_newObj];simp only [h0,if_true] at hcells;rw [hcells];rfl
      ·simp only [h0,if_false,Sem.run_bind,zeroValue,typeInfo,run_program,wbp,hi,hz,Sem.run_pure,newRow,run_newObj];simp only [h0,if_false] at hcells;rw [hcells];rfl
     simp only [execOp,ho,e1,e2,Sem.run_bind,main,wbp,Sem.run_pure]
    have hcs:cells.size=cc.toNat*sz (.slice te'):=by simp [cells]
    have hzc:z.cells.toList=[.slice none 0 0]:=by
     revert hd
     generalize z.cells.toList=L;intro hd;simp only [qd7] at hd;split at hd
     ·rfl
     ·cases hd
    have hz0:z.cells=#[.slice none 0 0]:=by rw [← Array.toArray_toList (xs:=z.cells),hzc]
    have hcell:∀ j,j<cc.toNat→cells[j]?=some (.slice none 0 0):=fun j hj=>by
     simp only [cells,hz0];rw [Array.getElem?_map];have:(Array.range (cc.toNat*sz (.slice te')))[j]?=some j:=by
      rw [Array.getElem?_range];simp [sz,hj]
     rw [this];simp [Nat.mod_one]
    have hold:∀ n,n<w.heap.size→(w.alloc (.cells cells e)).heap[n]?=w.heap[n]?:=fun n hn=>qb8 hn
    refine Does.new hrun rfl (em.heap.alloc (c:=cc.toNat) hk hold (by simp) rfl rfl (RepB.nest_of (c:=cells) (el:=e) (by simp [Cx.new,upd];omega) (fun _=>⟨?_,by simpa [Cx.new,upd,sz] using hcs⟩) fun j hj=>?_)) ?_
    ·show (w.alloc _).heap[upd Γ.ν (base+k) w.heap.size (base+k)]?=_;rw [qas,qc8]
    ·have hj':j<m.toNat:=by simpa using hj
     have hR:(Γ.new (base+k) w.heap.size cc.toNat).R (base+k) j=(0,0):=by simp [Cx.new,upd]
     have hrow:(List.replicate m.toNat ([]:List (Den te'))).getD j []=[]:=by
      rw [waa,wax];split<;>rfl
     rw [hR,hrow];exact ⟨⟨wad _,fun h=>absurd rfl h⟩,fun _=>⟨_,hcell j (by omega),none,rfl,fun _=>rfl,fun h=>absurd rfl h⟩⟩
    ·exact qca.2 ⟨.inr rfl,some ⟨w.heap.size,0,none⟩,cc.toNat,rfl,by simp [Cx.new,upd],fun _=>by simp [Cx.new,upd],by omega⟩
   ·exact qaa hob
theorem qr5 (em:Emb Γ S a w) (sp:Spec) (base k:Nat) {t e:TypeId} {te:Ty} {inf:TypeInfo} {z:Value} {zd:Den te} {n c:Operand} {n' c':Od} {tn tc:Option Ty}
  (hu:P.underlying t=some (.slice e)) (ht:tyS P e=some te) (hi:P.info? e=some inf) (hz:inf.zero=some z) (hd:qd7 te z.cells.toList=some zd) (hzs:z.cells.size=sz te) (hb0:0<inf.bytes) (hsz0:0<sz te)
  (hn:cOd tn n=some n') (hc:cOd tc c=some c') {o:Oper} (ho:o.op=.makeSlice t n c)
  (hob:allP (aeff sp base S.T S.H (.mkslicec k te zd inf.bytes n' c')).ob):Does P Γ S.H w (aeff sp base S.T S.H (.mkslicec k te zd inf.bytes n' c')) ((execOp a.eval o).run P w):=by
 obtain ⟨inf',d,hi',_,hsz,_⟩:=qbd ht;rw [hi] at hi';cases hi';have r1:=qaj em hn;have r2:=qaj em hc;rw [aeff] at hob ⊢;have hob0:=qbh hob;clear hob;obtain ⟨p,hob⟩:=hob0;have hob0:=qbh hob;clear hob;obtain ⟨q,hob⟩:=hob0;have r1:=qah r1 p;have r2:=qah r2 q
 revert hob
 dsimp only [p1]
 cases h1:asInt (peel (ev S.T n')).2 with
 | none=>exact fun hob=>qaa hob
 | some u=>cases h2:asInt (peel (ev S.T c')).2 with
  | none=>exact fun hob=>qaa hob
  | some v =>
   obtain ⟨k1,m⟩:=u;obtain ⟨k2,cc⟩:=v;simp only;intro hob;split at hob
   ·rename_i hf;rw [if_pos hf];have hk:=qbp hf;obtain ⟨b1,b2,b3⟩:=allP_one.1 hob;have e1:=qbe h1 r1;have e2:=qbe h2 r2;have hcc:cc≤1099511627776:=Int.le_trans (by
     have:cc*1≤cc*(inf.bytes:Int):=Int.mul_le_mul_of_nonneg_left (by omega) (by omega)
     omega) b3
    have w1:IntKind.i64.wrap m=m:=IntWalk.i64_in _ (by omega)
    have w2:IntKind.i64.wrap cc=cc:=IntWalk.i64_in _ (by omega)
    have hbb:(inf.bytes:Int)*cc≤1099511627776:=by rw [Int.mul_comm];exact b3
    have t1:¬ ((2:Int) ^ 48<(inf.bytes:Int)*cc):=by omega
    have t2:¬ (cc<0):=by omega
    have t3:¬ (m<0):=by omega
    have t4:¬ (cc<m):=by omega
    let cells:Array Value:=(Array.range (cc.toNat*sz te)).map (z.cells[· % z.cells.size]!)
    have hrun:(execOp a.eval o).run P w=.ok (.value (.slice (some ⟨w.heap.size,0,none⟩) m.toNat cc.toNat)) (w.alloc (.cells cells e)):=by
     have hcells:(Array.range (cc.toNat*sz te)).map ((if cc.toNat*sz te=0 then (#[]:Array Value) else z.cells)[· % (if cc.toNat*sz te=0 then (#[]:Array Value) else z.cells).size]!)=cells:=by
      by_cases h0:cc.toNat*sz te=0
      ·simp only [cells,h0];have hr0:Array.range 0=(#[]:Array Nat):=rfl;rw [hr0];simp
      ·simp [cells,h0]
     have main:(Instr.makeSlice t (.int k1 m) (.int k2 cc)).run P w=.ok (.slice (some ⟨w.heap.size,0,none⟩) m.toNat cc.toNat) (w.alloc (.cells cells e)):=by
      unfold Instr.makeSlice;simp only [Sem.run_bind,run_underlying hu,wbp,Go.asInt,asIntOf,Sem.run_pure,typeInfo,run_program,hi,w1,w2,sizeOf,hsz];simp only [wbe,wba];rw [if_neg (by
       rintro ((h | h) | h)
       ·rcases h with h | h
        ·exact t2 h
        ·exact t1 h
       ·exact t3 h
       ·exact t4 h)]
      simp only [Sem.run_bind,run_askRoom,wbp,run_program,hi,Sem.run_pure,hsz]
      by_cases h0:cc.toNat*sz te=0
      ·simp only [h0,if_true,Sem.run_pure,wbp,newRow,Sem.run_bind,run_newObj];simp only [h0,if_true] at hcells;rw [hcells];rfl
      ·simp only [h0,if_false,Sem.run_bind,zeroValue,typeInfo,run_program,wbp,hi,hz,Sem.run_pure,newRow,run_newObj];simp only [h0,if_false] at hcells;rw [hcells];rfl
     simp only [execOp,ho,e1,e2,Sem.run_bind,main,wbp,Sem.run_pure]
    have hcs:cells.size=cc.toNat*sz te:=by simp [cells]
    refine Does.new hrun rfl (qen em.heap (c:=cc.toNat) hk fun Γ' w' g1 g2 g3 g4=>?_) ?_
    ·refine qev g3 (by rw [g4];exact hcs) (by rw [g4];simp) (fun _=>by rw [g4];simp) (fun i x hx=>?_)
     have hlt:i<cc.toNat:=by
      rcases Nat.lt_or_ge i cc.toNat with h | h
      ·exact h
      ·rw [wac (by simpa using h)] at hx;cases hx
     rw [wax,if_pos hlt] at hx;cases hx;have hzc:=qcx (w:=w') (I:=Γ'.I) te _ _ hd;have:(cells.toList.drop (i*sz te)).take (sz te)=z.cells.toList:=by
      apply List.ext_getElem?;intro j;rw [wat]
      by_cases hj:j<sz te
      ·rw [if_pos hj,wbl];have hfit:i*sz te+j<cc.toNat*sz te:=by
        have:(i+1)*sz te≤cc.toNat*sz te:=Nat.mul_le_mul_right _ (by omega)
        rw [Nat.succ_mul] at this;omega
       have hmod:(i*sz te+j) % z.cells.size=j:=by
        rw [hzs,Nat.add_comm,Nat.add_mul_mod_self_right,Nat.mod_eq_of_lt hj]
       simp only [cells,Array.toList_map,wao,Array.toList_range,List.getElem?_range hfit,Option.map_some,hmod];have hjz:j<z.cells.size:=by omega
       rw [getElem!_pos z.cells j hjz];simp [hjz]
      ·rw [if_neg hj,wac (by simp;omega)]
     rw [this];exact hzc
    ·exact qca.2 ⟨.inr rfl,some ⟨w.heap.size,0,none⟩,cc.toNat,rfl,by simp [Cx.new,upd],fun _=>by simp [Cx.new,upd],by omega⟩
   ·exact qaa hob
theorem Does.less {e e':Ef} {r:Result Next} {H':List Hs} (h:Does P Γ H w e r) (hup:e.up=[]) (hw:∀ Γ' w',EmbH Γ' H w'→EmbH Γ' H' w'∧Ext Γ' H w' Γ' H' w') (hup':qar H e'.up=H') (hv:e'.v=e.v):Does P Γ H w e' r:=by
 unfold Does at h ⊢;rw [hup',hv];rw [hup] at h
 rcases h with ⟨v,w',Γ',h1,h2,h3,h4⟩ | ⟨f,args,h1,h2⟩
 ·obtain ⟨q1,q2⟩:=hw Γ' w' h3;exact .inl ⟨v,w',Γ',h1,h2.trans q2,q1,h4⟩
 ·refine .inr ⟨f,args,h1,Calls.mono h2 fun en w' hen=>?_⟩
  obtain ⟨v,Γ',g1,g2,g3,g4⟩:=hen;obtain ⟨q1,q2⟩:=hw Γ' w' g3;exact ⟨v,Γ',g1,g2.trans q2,q1,g4⟩
theorem qpq {te:Ty} {n:Int} {X:AV} (h:allP (qrb H te n X).ob):∃ (b len:Nat) (B B':Blk),X=.sl b (sz te) 0 len none∧H[b]?=some (.live B)∧(0≤n∧n≤(len:Nat)) ∧
  qrb H te n X=⟨[0≤n∧n≤(len:Nat)],.sl b (sz te) 0 n.toNat none,[(b,.live B')],[b]⟩∧(∀ w Γ,RepB w Γ b B→RepB w Γ b B')∧∀ t r o,B'=.nest t r o→∃ t r0 o,B=.nest t r0 o∧r.length≤r0.length:=by
 unfold qrb at h ⊢;split at h
 case h_2=>exact qaa h
 rename_i b s i len c;split at h
 case h_3=>exact qaa h
 ·rename_i t xs hg
  by_cases hc:s=sz t∧t=te
  case neg=>rw [if_neg hc] at h;exact qaa h
  rw [if_pos hc] at h;obtain ⟨rfl,rfl⟩:=hc;exact ⟨b,len,_,.arr t (xs.take n.toNat) true,rfl,qaw hg,allP_one.1 h,by simp only [hg,if_true,and_self],fun w Γ hB=>hB.arr_take,by intro _ _ _ h;cases h⟩
 ·rename_i t rows hg
  by_cases hc:s=1∧te=.slice t
  case neg=>rw [if_neg hc] at h;exact qaa h
  rw [if_pos hc] at h;obtain ⟨rfl,rfl⟩:=hc;exact ⟨b,len,_,.nest t (rows.take n.toNat) none,rfl,qaw hg,allP_one.1 h,by simp only [hg,if_true,and_self,sz],fun w Γ hB=>hB.nest_take,by intro _ _ _ h;cases h;exact ⟨_,_,_,rfl,by rw [wan];omega⟩⟩
theorem q0q (em:Emb Γ S a w) (sp:Spec) (base:Nat) {tx:Option Ty} {x:Operand} {x':Od} (hx:cOd tx x=some x') {lo hi mx:Option Operand} {hi':Od} (hlo:cOpt lo=some none) (hhi:cOpt hi=some (some hi')) (hmx:cOpt mx=some none)
  {t e:TypeId} {te:Ty} (hu:P.underlying t=some (.slice e)) (ht:tyS P e=some te)
  {o:Oper} (ho:o.op=.slice t x lo hi mx)
  (hob:allP (aeff sp base S.T S.H (.slct te x' hi')).ob):Does P Γ S.H w (aeff sp base S.T S.H (.slct te x' hi')) ((execOp a.eval o).run P w):=by
 have hslc:=qvq em sp base hx hlo hhi hmx hu ht ho;rw [aeff] at hob;obtain ⟨p1',hob⟩:=qbh hob
 cases hi1:asInt (peel (ev S.T hi')).2 with
 | none=>rw [hi1] at hob;exact qaa hob
 | some u =>
  obtain ⟨k1,n⟩:=u;rw [hi1] at hob;simp only at hob;obtain ⟨p2,hob⟩:=qbh hob;obtain ⟨b,len,B,B',hX,hb,hn,he,hB,hnn⟩:=qpq hob;obtain ⟨obs,hsl,hobs⟩:∃ obs,aeff sp base S.T S.H (.slc te x' none (some hi') none)=⟨obs,.sl b (sz te) 0 n.toNat none,[],[]⟩∧allP obs:=by
   refine ⟨(peel (ev S.T x')).1++((([]:List Prop)++(peel (ev S.T hi')).1++[])++[0≤n∧n≤(len:Nat)]),?_,qag.2 ⟨p2,qag.2 ⟨by simpa using p1',allP_one.2 hn⟩⟩⟩
   rw [aeff];have hL:qfw te (.sl b (sz te) 0 len none)=none:=rfl;have hI:optI S.T (some hi')=some ((peel (ev S.T hi')).1,some n):=by simp only [optI,hi1]
   have hN:optI S.T none=some ([],none):=rfl;rw [hI,hN]
   dsimp only [p1]
   rw [hX,hL]
   dsimp only
   rw [if_pos rfl];rfl
  obtain ⟨obs2,hsl2⟩:∃ obs,aeff sp base S.T S.H (.slct te x' hi')=⟨obs,.sl b (sz te) 0 n.toNat none,[(b,.live B')],[b]⟩:=by
   rw [aeff]
   dsimp only [p1]
   rw [hi1]
   dsimp only
   rw [he];exact ⟨_,rfl⟩
  rw [hsl] at hslc;rw [hsl2];exact (hslc hobs).less rfl (fun Γ' w' h3=>EmbH.weak h3 hb (hB w' Γ' (h3.blk b _ hb)) hnn) rfl rfl
end
section
variable {P:Program} {Γ:Cx} {H:List Hs} {w:World} {S:St} {a:Act}
def Seg (w:World) (I:Nat→Prop) (te:Ty) (xs:List (Den te)) (L:List Value):Prop :=
 L.length=xs.length*sz te∧∀ (i:Nat) (x:Den te),xs[i]?=some x→RepC w I te x ((L.drop (i*sz te)).take (sz te))
theorem Seg.nil {I:Nat→Prop} {te:Ty}:Seg w I te [] []:=⟨by simp,fun i x h=>by simp at h⟩
theorem Seg.cons {I:Nat→Prop} {te:Ty} {x:Den te} {xs:List (Den te)} {c L:List Value} (h:RepC w I te x c) (hs:Seg w I te xs L):Seg w I te (x::xs) (c++L):=by
 have hl:=RepC.length _ _ _ h;refine ⟨by rw [wae,hs.1,hl,wa5,Nat.succ_mul];omega,fun i y hy=>?_⟩
 cases i with
 | zero=>simp at hy;subst hy;simpa [← hl] using h
 | succ i =>
  have e:(i+1)*sz te-c.length=i*sz te:=by rw [Nat.succ_mul];omega
  rw [List.drop_append,List.drop_eq_nil_of_le (by rw [Nat.succ_mul];omega),e]
  simpa using hs.2 i y (by simpa using hy)
theorem Seg.append {I:Nat→Prop} {te:Ty} {xs ys:List (Den te)} {L M:List Value} (h:Seg w I te xs L) (hs:Seg w I te ys M):Seg w I te (xs++ys) (L++M):=by
 refine ⟨by rw [wae,h.1,hs.1,wae,Nat.add_mul],fun i y hy=>?_⟩
 by_cases hi:i<xs.length
 ·rw [waf hi] at hy;have hle:(i+1)*sz te≤xs.length*sz te:=Nat.mul_le_mul_right _ hi;rw [Nat.succ_mul] at hle;rw [List.drop_append_of_le_length (by rw [h.1];omega),List.take_append_of_le_length (by rw [wav,h.1];omega)]
  exact h.2 i y hy
 ·rw [wag (by omega)] at hy
  have hge:xs.length*sz te≤i*sz te:=Nat.mul_le_mul_right _ (by omega)
  rw [List.drop_append,List.drop_eq_nil_of_le (by rw [h.1];exact hge),h.1,← Nat.sub_mul]
  simpa using hs.2 _ y hy
theorem Seg.mono {w':World} {I I':Nat→Prop} {te:Ty} {xs:List (Den te)} {L:List Value} (hI:∀ b,I b→I' b) (hw:∀ b,I b→w'.heap[b]?=w.heap[b]?) (h:Seg w I te xs L):Seg w' I' te xs L :=
 ⟨h.1,fun i x hx=>RepC.mono hI hw te x _ (h.2 i x hx)⟩
theorem Seg.oneCell {I:Nat→Prop} {te:Ty}:∀ {xs:List (Den te)} {L:List Value},Seg w I te xs L→∀ v∈L,v.oneCell'=true
 | xs,L,h,v,hv=>by
  obtain ⟨j,hj,rfl⟩:=List.mem_iff_getElem.1 hv
  by_cases h0:sz te=0
  ·have:=h.1;rw [h0,Nat.mul_zero] at this;omega
  ·have hjl:j<xs.length*sz te:=by rw [← h.1];exact hj
   have hi:j / sz te<xs.length:=by rw [Nat.div_lt_iff_lt_mul (by omega)];exact hjl
   have hr:=h.2 _ _ (wab hi);refine RepC.oneCell _ _ _ hr _ ?_;apply wbi (i:=j % sz te);rw [wat,if_pos (Nat.mod_lt _ (by omega)),wbl,Nat.mul_comm,Nat.div_add_mod,wab hj]
def qia (w:World) (I:Nat→Prop) (te:Ty) (ys:List (Den te)) (ad:Option Addr):Prop :=
 ∀ (i:Nat) (x:Den te),ys[i]?=some x→∃ b off cs,ad=some ⟨b,off,none⟩∧RepC w I te x cs∧qa1 w b (off+i*sz te) cs
theorem qiy {I:Nat→Prop} {te:Ty} {b:Nat}:∀ {ys:List (Den te)} {off:Nat},qia w I te ys (some ⟨b,off,none⟩)→∃ L,Seg w I te ys L∧qa1 w b off L
 | [],off,_=>⟨[],Seg.nil,fun j v h=>by simp at h⟩
 | y::ys,off,h=>by
  obtain ⟨b',off',c,e,g1,g2⟩:=h 0 y rfl;cases e;have hl:=RepC.length _ _ _ g1;obtain ⟨L,k1,k2⟩:=qiy (b:=b) (ys:=ys) (off:=off+sz te) fun i x hx=>by
   obtain ⟨b',off',c',e,m1,m2⟩:=h (i+1) x (by simpa using hx)
   cases e;exact ⟨b,off+sz te,c',rfl,m1,by rw [show off+sz te+i*sz te=off+(i+1)*sz te by rw [Nat.succ_mul];omega];exact m2⟩
  exact ⟨c++L,Seg.cons g1 k1,qa1.app.2 ⟨by simpa using g2,by rw [hl];exact k2⟩⟩
theorem qh4 {I:Nat→Prop} {te:Ty} {ys:List (Den te)} {ad:Option Addr} (h:qia w I te ys ad) (h0:0<ys.length):∃ b off,ad=some ⟨b,off,none⟩:=by
 obtain ⟨b,off,_,e,_⟩:=h 0 ys[0] (wab h0);exact ⟨b,off,e⟩
theorem qg8.src {I:Nat→Prop} {te:Ty} {ys:List (Den te)} {ad:Option Addr} (h:qg8 w I te ys ad):qia w I te ys ad:=fun i x hx=>by
 obtain ⟨b,off,cs,e,_,g2,g3⟩:=h i x hx;exact ⟨b,off,cs,e,g2,g3⟩
theorem qu2 {b:Nat} {te:Ty} {xs:List (Den te)} (h:ArrE w Γ b te xs) {i len:Nat} {ad:Option Addr} (had:len≠0→ad=some ⟨Γ.ν b,i*sz te,none⟩):qia w Γ.I te ((xs.drop i).take len) ad:=by
 intro j x hx;rw [wat] at hx;split at hx
 ·rw [wbl] at hx;obtain ⟨cs,g1,g2⟩:=h _ _ hx;refine ⟨_,_,cs,had (by omega),g1,?_⟩
  rw [← Nat.add_mul];exact g2
 ·cases hx
theorem qf0 (e:EmbH Γ H w) {te:Ty} {x:AV} {q:List Prop} {ys:List (Den te)} {v:Value} (hns:qcp H x=false) (h:rvL H te x=some (q,ys)) (hq:allP q) (hr:Ra w Γ x v) :
  ∃ ad cap,v=.slice ad ys.length cap∧qia w Γ.I te ys ad:=by
 unfold rvL at h;simp only [rv] at h;split at h
 ·rename_i t' y heq;cases heq
  cases hc:qa9 t' (.slice te) y with
  | none=>rw [hc] at h;cases h
  | some z =>
   rw [hc] at h;obtain ⟨e1,e2⟩:=qat hc;subst e1;subst e2;cases h;obtain ⟨ad,cap,hv,_,_,hat⟩:=qb0.1 (Ra_val.1 hr);exact ⟨ad,cap,hv,hat.src⟩
 ·rename_i t' y c heq;cases heq
  cases hc:qa9 (.slice t') (.slice te) y with
  | none=>rw [hc] at h;cases h
  | some z =>
   rw [hc] at h;obtain ⟨e1,e2⟩:=qat hc;cases e1;subst e2;cases h;obtain ⟨ad,hv,_,_,hat⟩:=qj0.1 hr;exact ⟨ad,c,hv,hat.src⟩
 ·rename_i b t' y heq;cases heq
  cases hc:qa9 t' (.slice te) y with
  | none=>rw [hc] at h;cases h
  | some z =>
   rw [hc] at h;obtain ⟨e1,e2⟩:=qat hc;subst e1;subst e2;cases h
   cases b with
   | true =>
    have hv:v=.slice none 0 0:=by simpa using hr.2.1 rfl
    exact ⟨none,0,hv,fun i x hx=>by
     have hx:([]:List (Den te))[i]?=some x:=hx;simp at hx⟩
   | false =>
    obtain ⟨ad,cap,hv,_,_,hat⟩:=qb0.1 (Ra_val.1 (hr.2.2 rfl).1);exact ⟨ad,cap,hv,hat.src⟩
 ·rename_i t' y c heq;cases heq;cases h;have hv:v=.slice none 0 0:=by simpa using hr.2.1 rfl
  exact ⟨none,0,hv,fun i x hx=>by simp at hx⟩
 ·rename_i b s i len c heq;cases heq
  cases hc:arrElems H te b s with
  | none=>rw [hc] at h;cases h
  | some zs =>
   rw [hc] at h;cases h;have hle:=allP_one.1 hq;unfold arrElems at hc;split at hc
   ·rename_i te' xs opn hg
    by_cases hs:s=sz te'
    ·rw [if_pos hs] at hc;obtain ⟨e1,e2⟩:=qbx hc;subst e1;subst e2;obtain ⟨hA,ad,cap,hv,hcap,hoff,hlc⟩:=qca.1 hr;have hB:=e.resE hg;refine ⟨ad,cap,?_,qu2 hB (fun h0=>by rw [hoff (by omega),hs])⟩
     rw [hv];congr 1;rw [wan,wav];have hle':i+len≤zs.length:=hle;omega
    ·rw [if_neg hs] at hc;cases hc
   ·rename_i t' rows ho hg;exfalso;have:hget H b=some (.nest t' rows ho):=by
     unfold hres at hg;split at hg
     ·rename_i hb;simp only [waz] at hg;subst hg;simp only [hget,hb]
     ·split at hg<;>cases hg
     ·cases hg
    simp only [qcp,this] at hns;cases hns
   ·cases hc
 ·cases h
theorem qha {t ty e:TypeId} {inf:TypeInfo} (ht:P.underlying t=some (.slice e)) (hi:P.info? e=some inf) {g off sLen sCap:Nat} {cur:Array Value} {el:TypeId} (hg:w.heap[g]?=some (.cells cur el (0,0)))
  {b o2 m c:Nat} {news:List Value} (hl:news.length=m*inf.size) (hnews:qa1 w b o2 news) (h1:∀ u∈news,u.oneCell'=true) (hroom:sLen+m≤sCap) (hfit:off+sLen*inf.size+news.length≤cur.size) :
  (Builtin.append_ #[t,t] ty #[.slice (some ⟨g,off,none⟩) sLen sCap,.slice (some ⟨b,o2,none⟩) m c]).run P w =
   .ok (.slice (some ⟨g,off,none⟩) (sLen+m) sCap) (w.setRow g (qbb cur (off+sLen*inf.size) news)):=by
 have hf:=run_firstCells_some (P:=P) w inf.size m ⟨b,o2,none⟩ m c news hl (fun j v hj=>by rw [qbv];exact hnews j v hj)
 have hst:=run_storeCells_at P g (off+sLen*inf.size) el news 0 cur w hg (by simpa using hfit) h1
 simp only [Nat.add_zero] at hst;simp [Builtin.append_,run_underlying ht,sizeOf,typeInfo,hi,Builtin.lenOf,hroom,hf,qbv,hst,qbb]
theorem qmm {t ty e:TypeId} {inf:TypeInfo} (ht:P.underlying t=some (.slice e)) (hi:P.info? e=some inf) {ad ad2:Option Addr} {sLen sCap c:Nat} (hroom:sLen≤sCap) :
  (Builtin.append_ #[t,t] ty #[.slice ad sLen sCap,.slice ad2 0 c]).run P w=.ok (.slice ad sLen sCap) w:=by
 have hl0:∀ (x:Addr),(loadCells x 0).run P w=.ok #[] w:=fun x=>by simpa using run_loadCells_list (P:=P) w x [] (by simp)
 cases ad<;>cases ad2<;>simp [Builtin.append_,run_underlying ht,sizeOf,typeInfo,hi,Builtin.lenOf,hroom,Builtin.firstCells,hl0,storeCells]
theorem qso {Γ':Cx} {w':World} {k:Nat} {te:Ty} {xs ys:List (Den te)} {L M:List Value} {z:Value} {el:TypeId} {cap:Nat} (h1:Seg w' Γ'.I te xs L) (h2:Seg w' Γ'.I te ys M) (hz:z.cells.size=sz te) (hcap:xs.length+ys.length≤cap)
  (hh:w'.heap[Γ'.ν k]?=some (.cells (L.toArray++M.toArray++Builtin.zeroCells z.cells (cap-(xs.length+ys.length))) el (0,0))) (hk:Γ'.κ k=cap):RepB w' Γ' k (.arr te (xs++ys) true):=by
 have hs:=h1.append h2;refine qev hh ?_ (by rw [hk];simpa using hcap) (by simp) (fun i x hx=>?_)
 ·rw [hk];simp only [Array.size_append,List.size_toArray,size_zeroCells,hz];rw [h1.1,h2.1,← Nat.add_mul,← Nat.add_mul];congr 1;omega
 ·have hi:i<(xs++ys).length:=by
   rcases Nat.lt_or_ge i (xs++ys).length with h | h
   ·exact h
   ·rw [wac h] at hx;cases hx
  have hle:(i+1)*sz te≤(xs++ys).length*sz te:=Nat.mul_le_mul_right _ hi;rw [Nat.succ_mul] at hle;have:=hs.2 i x hx;simp only [Array.toList_append,war];rw [← war,List.drop_append_of_le_length (by rw [hs.1];omega),List.take_append_of_le_length (by rw [wav,hs.1];omega)]
  exact this
theorem qt7 {t ty e : TypeId} {inf : TypeInfo} {z : Value} {te : Ty} (ht : P.underlying t = some (.slice e)) (hte : tyS P e = some te) (hi : P.info? e = some inf) (hz : inf.zero = some z) (hzs : z.cells.size = sz te)
    (em:EmbH Γ H w) {k:Nat} (hk:H[k]?=some .free) {xs ys:List (Den te)} {ad ad2:Option Addr} {c c2:Nat} (h1:qia w Γ.I te xs ad) (h2:qia w Γ.I te ys ad2) (had:ad=none→c=0) (hle:xs.length≤c) (hg:c<xs.length+ys.length)
    (had1:∀ x,ad=some x→x.spot=none) (hb:(xs.length+ys.length)*inf.bytes≤1099511627776) (hb0:0<inf.bytes) :
    ∃ Γ' w' cap,(Builtin.append_ #[t,t] ty #[.slice ad xs.length c,.slice ad2 ys.length c2]).run P w=.ok (.slice (some ⟨w.heap.size,0,none⟩) (xs.length+ys.length) cap) w' ∧
      EmbH Γ' (H.set k (.live (.arr te (xs++ys) true))) w'∧Ext Γ H w Γ' (H.set k (.live (.arr te (xs++ys) true))) w'∧Ra w' Γ' (.sl k (sz te) 0 (xs.length+ys.length) none) (.slice (some ⟨w.heap.size,0,none⟩) (xs.length+ys.length) cap):=by
  obtain ⟨inf',d,hi',_,hsz,_⟩:=qbd hte;rw [hi] at hi';cases hi';have hn:0<ys.length:=by omega
  obtain ⟨b2,o2,rfl⟩:=qh4 h2 hn;obtain ⟨M,m1,m2⟩:=qiy h2;have hsmall:xs.length+ys.length≤1099511627776:=Nat.le_trans (Nat.le_mul_of_pos_right _ hb0) hb;have hM:M.length=ys.length*inf.size:=by rw [m1.1,hsz]
  have hnews:∀ j v,M[j]?=some v→w.cell? ((⟨b2,o2,none⟩:Addr).add j)=some v:=fun j v hj=>by rw [qbv];exact m2 j v hj
  have fin : ∀ (L : List Value), Seg w Γ.I te xs L → (Builtin.append_ #[t, t] ty #[.slice ad xs.length c, .slice (some ⟨b2, o2, none⟩) ys.length c2]).run P w =
        .ok (.slice (some ⟨w.heap.size,0,none⟩) (xs.length+ys.length) (grownCap w (xs.length+ys.length) c e)) (w.drew.alloc (.cells (L.toArray++M.toArray++Builtin.zeroCells z.cells (grownCap w (xs.length+ys.length) c e-(xs.length+ys.length))) e)) →
      ∃ Γ' w' cap,(Builtin.append_ #[t,t] ty #[.slice ad xs.length c,.slice (some ⟨b2,o2,none⟩) ys.length c2]).run P w=.ok (.slice (some ⟨w.heap.size,0,none⟩) (xs.length+ys.length) cap) w' ∧
        EmbH Γ' (H.set k (.live (.arr te (xs++ys) true))) w'∧Ext Γ H w Γ' (H.set k (.live (.arr te (xs++ys) true))) w'∧Ra w' Γ' (.sl k (sz te) 0 (xs.length+ys.length) none) (.slice (some ⟨w.heap.size,0,none⟩) (xs.length+ys.length) cap):=fun L hL hrun=>by
    have hcap:=grownCap_ge w (xs.length+ys.length) c e;have hold:∀ n,n<w.heap.size→(w.drew.alloc (.cells (L.toArray++M.toArray++Builtin.zeroCells z.cells (grownCap w (xs.length+ys.length) c e-(xs.length+ys.length))) e)).heap[n]?=w.heap[n]?:=fun n hn=>qb8 (w:=w.drew) hn
    have hI:∀ b,Γ.I b→(w.drew.alloc (.cells (L.toArray++M.toArray++Builtin.zeroCells z.cells (grownCap w (xs.length+ys.length) c e-(xs.length+ys.length))) e)).heap[b]?=w.heap[b]?:=fun b hb=>hold b (em.old b hb)
    obtain ⟨g1,g2⟩:=em.alloc (c:=grownCap w (xs.length+ys.length) c e) (B:=.arr te (xs++ys) true) hk hold (by simp) rfl rfl
      (qso (hL.mono (fun _ h=>h) hI) (m1.mono (fun _ h=>h) hI) hzs hcap (by
        show (w.drew.alloc _).heap[upd Γ.ν k w.heap.size k]?=_;rw [qas];exact qc8 (w:=w.drew)) qas)
    refine ⟨_,_,_,hrun,g1,g2,qca.2 ⟨.inr rfl,_,_,rfl,?_,fun _=>by simp [Cx.new,upd],hcap⟩⟩
    simp [Cx.new,upd]
  cases ad with
  | none =>
    have hc0:=had rfl;subst hc0;have hx0:xs=[]:=wbf (by omega)
    subst hx0;have hr:=run_append_nil (P:=P) w t ty e inf z ht hi hz ⟨b2,o2,none⟩ ys.length c2 M hM hnews hn (by simp at hsmall;omega) (by simp at hb;omega)
    have:=fin [] Seg.nil (by simpa using hr)
    simpa using this
  | some x =>
    obtain ⟨xb,xo,xs'⟩:=x;have:xs'=none:=had1 _ rfl;subst this;obtain ⟨L,l1,l2⟩:=qiy h1;have hr:=run_append_grow (P:=P) w t ty e inf z ht hi hz ⟨xb,xo,none⟩ xs.length c L (by rw [l1.1,hsz]) (fun j v hj=>by rw [qbv];exact l2 j v hj) ⟨b2,o2,none⟩ ys.length c2 M hM hnews hg (by omega)
      (growslice_fits hg (by omega))
    exact fin L l1 hr
end
section
variable {P:Program} {Γ:Cx} {H:List Hs} {w:World} {S:St} {a:Act}
theorem q4c {I:Nat→Prop} {te:Ty} {xs:List (Den te)} {ad:Option Addr} (h:qia w I te xs ad) (n:Nat):qia w I te (xs.take n) ad:=fun i x hx=>by
 rw [wat] at hx;split at hx
 ·exact h i x hx
 ·cases hx
theorem qke {t ty e:TypeId} {inf:TypeInfo} {z:Value} {te:Ty} (ht:P.underlying t=some (.slice e)) (hte:tyS P e=some te) (hi:P.info? e=some inf) (hz:inf.zero=some z) (hzs:z.cells.size=sz te)
  (em:EmbH Γ H w) {k:Nat} (hk:H[k]?=some .free) {ys:List (Den te)} {ad ad2:Option Addr} {c c2:Nat} (h2:qia w Γ.I te ys ad2) (had:ad=none→c=0) (hg:c<ys.length)
  (hb:ys.length*inf.bytes≤1099511627776) (hb0:0<inf.bytes) :
  ∃ Γ' w' cap,(Builtin.append_ #[t,t] ty #[.slice ad 0 c,.slice ad2 ys.length c2]).run P w=.ok (.slice (some ⟨w.heap.size,0,none⟩) ys.length cap) w' ∧
   EmbH Γ' (H.set k (.live (.arr te ys true))) w'∧Ext Γ H w Γ' (H.set k (.live (.arr te ys true))) w'∧Ra w' Γ' (.sl k (sz te) 0 ys.length none) (.slice (some ⟨w.heap.size,0,none⟩) ys.length cap):=by
 obtain ⟨inf',d,hi',_,hsz,_⟩:=qbd hte;rw [hi] at hi';cases hi';have hn:0<ys.length:=by omega
 obtain ⟨b2,o2,rfl⟩:=qh4 h2 hn;obtain ⟨M,m1,m2⟩:=qiy h2;have hsmall:ys.length≤1099511627776:=Nat.le_trans (Nat.le_mul_of_pos_right _ hb0) hb;have hM:M.length=ys.length*inf.size:=by rw [m1.1,hsz]
 have hf:=run_firstCells_some (P:=P) w.drew inf.size ys.length ⟨b2,o2,none⟩ ys.length c2 M hM (fun j v hj=>by rw [qbv];simpa using m2 j v hj)
 have hroom:¬ (ys.length≤c):=by omega
 have h63:¬ (9223372036854775807<(ys.length:Int)):=by omega
 have h48:¬ (281474976710656<Builtin.nextslicecap ys.length c*inf.bytes):=by
  have:=growslice_fits (need:=ys.length) (old:=c) (bytes:=inf.bytes) hg (by omega)
  omega
 have hrun:(Builtin.append_ #[t,t] ty #[.slice ad 0 c,.slice (some ⟨b2,o2,none⟩) ys.length c2]).run P w =
   .ok (.slice (some ⟨w.heap.size,0,none⟩) ys.length (grownCap w ys.length c e)) (w.drew.alloc (.cells (([]:List Value).toArray++M.toArray++Builtin.zeroCells z.cells (grownCap w ys.length c e-(([]:List (Den te)).length+ys.length))) e)):=by
  cases ad with
  | none =>
   have hfn:(Builtin.firstCells inf.size 0 (.slice none 0 c)).run P w.drew=.ok #[] w.drew:=rfl;simp [Builtin.append_,run_underlying ht,sizeOf,typeInfo,zeroValue,hi,hz,Builtin.lenOf,hroom,h63,h48,Question.forced,hf,newRow,grownCap,hfn]
  | some ad =>
   have hfo:=run_firstCells_some (P:=P) w.drew inf.size 0 ad 0 c [] (by simp) (by simp)
   simp [Builtin.append_,run_underlying ht,sizeOf,typeInfo,zeroValue,hi,hz,Builtin.lenOf,hroom,h63,h48,Question.forced,hf,newRow,grownCap,hfo]
 have hcap:=grownCap_ge w ys.length c e;have hold:∀ n,n<w.heap.size→(w.drew.alloc (.cells (([]:List Value).toArray++M.toArray++Builtin.zeroCells z.cells (grownCap w ys.length c e-(([]:List (Den te)).length+ys.length))) e)).heap[n]?=w.heap[n]?:=fun n hn=>qb8 (w:=w.drew) hn
 have hI:∀ b,Γ.I b→(w.drew.alloc (.cells (([]:List Value).toArray++M.toArray++Builtin.zeroCells z.cells (grownCap w ys.length c e-(([]:List (Den te)).length+ys.length))) e)).heap[b]?=w.heap[b]?:=fun b hb=>hold b (em.old b hb)
 obtain ⟨g1,g2⟩:=em.alloc (c:=grownCap w ys.length c e) (B:=.arr te ([]++ys) true) hk hold (by simp) rfl rfl
  (qso Seg.nil (m1.mono (fun _ h=>h) hI) hzs (by simpa using hcap) (by
   show (w.drew.alloc _).heap[upd Γ.ν k w.heap.size k]?=_;rw [qas];exact qc8 (w:=w.drew)) qas)
 refine ⟨_,_,_,hrun,g1,g2,qca.2 ⟨.inr rfl,_,_,rfl,?_,fun _=>by simp [Cx.new,upd],hcap⟩⟩
 simp [Cx.new,upd]
theorem qg1 {t ty e:TypeId} {inf:TypeInfo} {z:Value} {te:Ty} (ht:P.underlying t=some (.slice e)) (hte:tyS P e=some te) (hi:P.info? e=some inf) (hz:inf.zero=some z) (hzs:z.cells.size=sz te)
  (em:EmbH Γ H w) {k:Nat} (hk:H[k]?=some .free) {xs ys:List (Den te)} {ad ad2:Option Addr} {c c2:Nat} (h1:qia w Γ.I te xs ad) (h2:qia w Γ.I te ys ad2) (had:ad=none→c=0) (hle:xs.length≤c) (hg:c<xs.length+ys.length)
  (hb:(xs.length+ys.length)*inf.bytes≤1099511627776) (hb0:0<inf.bytes) :
  ∃ Γ' w' cap,(Builtin.append_ #[t,t] ty #[.slice ad xs.length c,.slice ad2 ys.length c2]).run P w=.ok (.slice (some ⟨w.heap.size,0,none⟩) (xs.length+ys.length) cap) w' ∧
   EmbH Γ' (H.set k (.live (.arr te (xs++ys) true))) w'∧Ext Γ H w Γ' (H.set k (.live (.arr te (xs++ys) true))) w'∧Ra w' Γ' (.sl k (sz te) 0 (xs.length+ys.length) none) (.slice (some ⟨w.heap.size,0,none⟩) (xs.length+ys.length) cap):=by
 cases xs with
 | nil =>
  have:=qke (ty:=ty) ht hte hi hz hzs em hk (c2:=c2) h2 had (by simpa using hg) (by simpa using hb) hb0
  simpa using this
 | cons x xs =>
  refine qt7 ht hte hi hz hzs em hk h1 h2 had hle hg (fun y hy=>?_) hb hb0
  obtain ⟨b,off,e⟩:=qh4 h1 (by simp)
  rw [e] at hy;cases hy;rfl
theorem qmn {t ty e:TypeId} {inf:TypeInfo} {z:Value} {T:Ty} (ht:P.underlying t=some (.slice e)) (hte:tyS P e=some T) (hi:P.info? e=some inf) (hz:inf.zero=some z) (hzs:z.cells.size=sz T) (hb0:0<inf.bytes)
  (em:EmbH Γ H w) {b k len:Nat} {zs ys:List (Den T)} (hH:H[b]?=some (.live (.arr T zs true))) (hk:H[k]?=some .free) (q2:len≤zs.length) {v1:Value} (r1:Ra w Γ (.sl b (sz T) 0 len none) v1) {ad2:Option Addr} {c2:Nat}
  (hsrc:qia w Γ.I T ys ad2) (q3:(len+ys.length)*inf.bytes≤1099511627776) :
  ∃ v w' Γ',(Builtin.append_ #[t,t] ty #[v1,.slice ad2 ys.length c2]).run P w=.ok v w'∧(EmbH Γ' ((H.set b .dead).set k (.live (.arr T (zs.take len++ys) true))) w'∧Ext Γ H w Γ' ((H.set b .dead).set k (.live (.arr T (zs.take len++ys) true))) w') ∧
   Ra w' Γ' (.sl k (sz T) 0 (len+ys.length) none) v:=by
 obtain ⟨inf',d,hi',_,hsz,_⟩:=qbd hte;rw [hi] at hi';cases hi';have hbk:b≠k:=fun h=>by subst h;rw [hH] at hk;cases hk
 have hB:=em.blk b _ hH;obtain ⟨hA,ad,cap,hv1,hcap,hoff,hle⟩:=qca.1 r1;subst hv1;simp only [Option.getD_none,Nat.sub_zero] at hcap;subst hcap;have hlen:(zs.take len).length=len:=by rw [wan];omega
 have hsrcX:qia w Γ.I T (zs.take len) ad:=by
  have:=qu2 (w:=w) (Γ:=Γ) (len:=len) (i:=0) (ad:=ad) hB.arrE (fun h0=>by rw [hoff (by omega)])
  simpa using this
 have hadn:ad=none→Γ.κ b=0:=fun hn=>by
  apply Classical.byContradiction;intro hc;rw [hoff hc] at hn;cases hn
 by_cases hroom:len+ys.length≤Γ.κ b
 ·-- in its place
  have hB':=hB;simp only [RepB] at hB';obtain ⟨k3,k4,hB'⟩:=hB'
  by_cases h0:ys.length=0
  ·have hys:ys=[]:=wbf h0;subst hys;have hr:=qmm (P:=P) (w:=w) (ty:=ty) ht hi (ad:=ad) (ad2:=ad2) (sLen:=len) (sCap:=Γ.κ b) (c:=c2) hle;have hmv:=em.move (w':=w) (B':=.arr T (zs.take len++[]) true) hH hk (fun _ _=>rfl) (wad _) rfl rfl (by
    rw [wbo];simp only [RepB,Cx.new,qas];refine ⟨by omega,by simp,fun hk0=>?_⟩
    obtain ⟨cur,el,k1,k2,k5⟩:=hB' hk0;refine ⟨cur,el,k1,k2,fun j x hx=>?_⟩
    rw [wat] at hx;split at hx
    ·exact k5 j x hx
    ·cases hx)
   refine ⟨.slice ad len (Γ.κ b),_,_,by simpa using hr,hmv,?_⟩
   ·exact qca.2 ⟨.inr rfl,ad,Γ.κ b,rfl,by simp [Cx.new,upd],fun h=>by rw [hoff h];simp [Cx.new,upd],by simpa using hle⟩
  ·obtain ⟨b2,o2,rfl⟩:=qh4 hsrc (by omega)
   obtain ⟨M,m1,m2⟩:=qiy hsrc;have hk0:Γ.κ b≠0:=by omega
   have had0:=hoff hk0;rw [Nat.zero_mul] at had0;subst had0;obtain ⟨cur,el,k1,k2,k5⟩:=hB' hk0;have hfit:0+len*inf.size+M.length≤cur.size:=by
    rw [m1.1,hsz,k2,wa7,← Nat.add_mul];exact Nat.mul_le_mul_right _ hroom
   have hr:=qha (P:=P) (ty:=ty) ht hi k1 (b:=b2) (o2:=o2) (m:=ys.length) (c:=c2) (by rw [m1.1,hsz]) m2 m1.oneCell hroom hfit
   have hI:∀ n,Γ.I n→(w.setRow (Γ.ν b) (qbb cur (0+len*inf.size) M)).heap[n]?=w.heap[n]?:=fun n hn=>qbz fun h=>em.imm b ⟨_,hH⟩ hk0 (h▸hn)
   have hmv:=em.move (w':=w.setRow (Γ.ν b) (qbb cur (0+len*inf.size) M)) (B':=.arr T (zs.take len++ys) true) hH hk (fun n hn=>qbz (hn hk0)) (by simp) rfl rfl (by
    have hrow:=setRow_heap w (Γ.ν b) cur (qbb cur (0+len*inf.size) M) el _ k1;simp only [RepB,Cx.new,qas];refine ⟨by rw [wae,hlen];exact hroom,by simp,fun _=>⟨_,el,hrow,by rw [qb1 hfit];exact k2,fun j x hx=>?_⟩⟩
    rw [hsz,wa7] at hfit ⊢
    by_cases hj:j<len
    ·rw [waf (by omega),wat,if_pos hj] at hx
     obtain ⟨cs,n1,n2⟩:=k5 j x hx;refine ⟨cs,RepC.mono (fun _ h=>h) (by simpa [hsz] using hI) T x cs n1,fun l v hl=>?_⟩
     have hl2:=RepC.length _ _ _ n1;have hlt:l<cs.length:=by
      rcases Nat.lt_or_ge l cs.length with h | h
      ·exact h
      ·rw [wac h] at hl;cases hl
     have:(j+1)*sz T≤len*sz T:=Nat.mul_le_mul_right _ hj;rw [Nat.succ_mul] at this;rw [qa2 hfit,if_neg (by omega)]
     exact n2 l v hl
    ·rw [wag (by omega),hlen] at hx
     have hseg:=m1.2 _ x hx;refine ⟨_,RepC.mono (fun _ h=>h) (by simpa [hsz] using hI) T x _ hseg,fun l v hl=>?_⟩
     rw [wat] at hl;split at hl
     ·rename_i hlt;rw [wbl] at hl;have hmul:j*sz T=len*sz T+(j-len)*sz T:=by rw [← Nat.add_mul];congr 1;omega
      have hbound:(j-len)*sz T+l<M.length:=by
       rcases Nat.lt_or_ge ((j-len)*sz T+l) M.length with h | h
       ·exact h
       ·rw [wac h] at hl;cases hl
      rw [qa2 hfit,if_pos (by omega),show j*sz T+l-len*sz T=(j-len)*sz T+l by omega]
      exact hl
     ·cases hl)
   refine ⟨.slice (some ⟨Γ.ν b,0,none⟩) (len+ys.length) (Γ.κ b),_,_,hr,hmv,?_⟩
   ·exact qca.2 ⟨.inr rfl,_,Γ.κ b,rfl,by simp [Cx.new,upd],fun h=>by simp [Cx.new,upd],hroom⟩
 ·-- it grows
  obtain ⟨kill1,kill2⟩:=em.kill hH;have hk':(H.set b .dead)[k]?=some .free:=by rw [wah hbk];exact hk
  obtain ⟨Γ',w',cap',hr,g1,g2,g3⟩:=qg1 (ty:=ty) ht hte hi hz hzs kill1 hk' (c2:=c2) hsrcX hsrc hadn (by rw [hlen];exact hle) (by rw [hlen];omega) (by rw [hlen];exact q3) hb0
  rw [hlen] at hr g3;exact ⟨.slice (some ⟨w.heap.size,0,none⟩) (len+ys.length) cap',_,_,hr,⟨g1,kill2.trans g2⟩,g3⟩
theorem q6q {w':World} {R':Nat→Nat→Nat×Nat} {m s i len:Nat} {c:Option Nat} {v:Value} (h:Ra w Γ (.sl m s i len c) v):Ra w' { Γ with R:=R' } (.sl m s i len c) v:=by
 simp only [Ra,Rp] at h ⊢;exact h
theorem qzw (em:Emb Γ S a w) {nw:Nat} {x y:Operand} {t e:TypeId} {te:Ty} {inf:TypeInfo} {z:Value} {o:Oper}
  (ht:P.underlying t=some (.slice e)) (hte:tyS P e=some te) (hi:P.info? e=some inf) (hz:inf.zero=some z) (hzs:z.cells.size=sz te) (hb0:0<inf.bytes)
  (ho:(execOp a.eval o).run P w=((Builtin.append_ #[t,t] o.type #[a.eval x,a.eval y]).run P w).andThen fun v w'=>.ok (.value v) w')
  {q:List Prop} {ys:List (Den te)} {m s i len:Nat} {c:Option Nat} (r1:Ra w Γ (.sl m s i len c) (a.eval x)) {ad2:Option Addr} {c2:Nat} (hv2:a.eval y=.slice ad2 ys.length c2) (hsrc:qia w Γ.I te ys ad2)
  (hob:allP (appV S.H nw te inf.bytes q ys m s i len c).ob):Does P Γ S.H w (appV S.H nw te inf.bytes q ys m s i len c) ((execOp a.eval o).run P w):=by
 have eh:=em.heap;unfold appV at hob ⊢;split at hob
 case h_2=>exact qaa hob
 rename_i n p f hm;split at hob
 case h_2=>exact qaa hob
 rename_i t' rows hg;have hn:=qaw hg;split at hob
 case h_2=>exact qaa hob
 rename_i ys' hc
 by_cases hcond:qay S.H nw=true∧s=sz t'∧i=0∧te=t'
 case neg=>rw [if_neg hcond] at hob;exact qaa hob
 rw [if_pos hcond] at hob ⊢;obtain ⟨hf,rfl,rfl,rfl⟩:=hcond;obtain ⟨_,e2⟩:=qbx hc;have e2:ys'=ys:=e2;subst e2;have hk:=qbp hf;obtain ⟨_,hob⟩:=qag.1 hob;obtain ⟨hp,hob⟩:=qa0.1 hob;obtain ⟨hle,hob⟩:=qa0.1 hob;have hbytes:=allP_one.1 hob;obtain ⟨hA,q1,q2,_⟩:=eh.view_at hm hn hp;have hmn:m≠n:=fun h=>by rw [h,hn] at hm;cases hm
 have hnk:n≠nw:=fun h=>by rw [h,hk] at hn;cases hn
 have hmk:m≠nw:=fun h=>by rw [h,hk] at hm;cases hm
 obtain ⟨k1,k2⟩:=eh.killVs n;have hn1:(S.H.map (noVw n))[n]?=some (.live (.nest te rows none)):=qd6.2 hn;have hm1:(S.H.map (noVw n))[m]?=some .dead:=by rw [wao,hm];simp [noVw]
 have hk1:(S.H.map (noVw n))[nw]?=some .free:=by rw [wao,hk];rfl
 have hnv:∀ (m i:Nat) (f:Bool),(S.H.map (noVw n))[m]?≠some (.view n i f):=fun m i f h=>(qi8 h).1 rfl
 obtain ⟨l1,l2⟩:=k1.rowOut hn1 hm1 hnv hp q1 q2;have hH2:((((S.H.map (noVw n)).set n (.live (.nest te (rows.set p []) (some (p,m))))).set m (.live (.arr te (rows.getD p []) true))))[m]?=some (.live (.arr te (rows.getD p []) true)):=by
  rw [waw];simp [qbf hm]
 have hk2:((((S.H.map (noVw n)).set n (.live (.nest te (rows.set p []) (some (p,m))))).set m (.live (.arr te (rows.getD p []) true))))[nw]?=some .free:=by
  rw [wah hmk,wah hnk];exact hk1
 have r1':Ra w { Γ with R:=upd Γ.R n (upd (Γ.R n) p (0,0)) } (.sl m (sz te) 0 len none) (a.eval x):=q6q r1
 obtain ⟨v,w',Γ3,hr,⟨g1,g2⟩,g3⟩:=qmn (ty:=o.type) ht hte hi hz hzs hb0 l1 hH2 hk2 hle r1' (c2:=c2) hsrc hbytes;have hn3:((((((S.H.map (noVw n)).set n (.live (.nest te (rows.set p []) (some (p,m))))).set m (.live (.arr te (rows.getD p []) true))).set m .dead).set nw (.live (.arr te ((rows.getD p []).take len++ys') true))))[n]?=some (.live (.nest te (rows.set p []) (some (p,m)))):=by
  rw [wah (fun h=>hnk h.symm),wah hmn,wah hmn,waw];simp [qbf hn]
 have hk3:((((((S.H.map (noVw n)).set n (.live (.nest te (rows.set p []) (some (p,m))))).set m (.live (.arr te (rows.getD p []) true))).set m .dead).set nw (.live (.arr te ((rows.getD p []).take len++ys') true))))[nw]?=some (.live (.arr te ((rows.getD p []).take len++ys') true)):=by
  rw [waw];simp [qbf hk]
 obtain ⟨f1,f2⟩:=g1.rowIn hn3 hk3 (fun m' i' f' h=>by
  rcases qb3 h with ⟨_,h⟩ | ⟨_,h⟩
  ·cases h
  ·rcases qb3 h with ⟨_,h⟩ | ⟨_,h⟩
   ·cases h
   ·rcases qb3 h with ⟨_,h⟩ | ⟨_,h⟩
    ·cases h
    ·rcases qb3 h with ⟨_,h⟩ | ⟨_,h⟩
     ·cases h
     ·exact hnv m' i' f' h) (by simpa using hp)
 have hfin:(((((((S.H.map (noVw n)).set n (.live (.nest te (rows.set p []) (some (p,m))))).set m (.live (.arr te (rows.getD p []) true))).set m .dead).set nw (.live (.arr te ((rows.getD p []).take len++ys') true))).set n (.live (.nest te ((rows.set p []).set p ((rows.getD p []).take len++ys')) (some (p,nw))))).set nw (.view n p false)) =
   qar S.H (qkk n 0 S.H++[(n,.live (.nest te (rows.set p ((rows.getD p []).take len++ys')) (some (p,nw)))),(nw,.view n p false)]):=by
  rw [qfu,qq1];simp only [qar,List.set_set];apply List.ext_getElem?;intro d
  by_cases h1:nw=d
  ·subst h1;simp only [waw,waj,if_true]
  ·rw [wah h1,wah h1]
   by_cases h2:n=d
   ·subst h2;simp only [waw,waj,if_true]
   ·rw [wah h2,wah h2,wah h1]
    by_cases h3:m=d
    ·subst h3;rw [hm1,waw];simp [qbf hm]
    ·rw [wah h3,wah h2]
 rw [hfin] at f1 f2;refine Does.new (v:=v) ?_ rfl ⟨f1,k2.trans (l2.trans (g2.trans f2))⟩ (q6q g3);rw [ho,hv2,hr];rfl
theorem zee {nw bytes:Nat} {te:Ty} {q:List Prop} {ys:List (Den te)} {m s i len:Nat} {c:Option Nat} (h:allP (appV H nw te bytes q ys m s i len c).ob):allP q:=by
 unfold appV at h;split at h
 ·split at h
  ·split at h
   ·split at h
    ·exact (qag.1 h).1
    ·exact qaa h
   ·exact qaa h
  ·exact qaa h
 ·exact qaa h
theorem qgp {t ty e:TypeId} {inf:TypeInfo} {z:Value} (ht:P.underlying t=some (.slice e)) (hi:P.info? e=some inf) (hz:inf.zero=some z) {ad:Option Addr} {b2 o2 c c2 m:Nat} {M:List Value} (hM:M.length=m*inf.size) (m2:qa1 w b2 o2 M)
  (hg:c<m) (hb:m*inf.bytes≤1099511627776) (hsmall:m≤1099511627776) :
  (Builtin.append_ #[t,t] ty #[.slice ad 0 c,.slice (some ⟨b2,o2,none⟩) m c2]).run P w =
   .ok (.slice (some ⟨w.heap.size,0,none⟩) m (grownCap w m c e)) (w.drew.alloc (.cells (([]:List Value).toArray++M.toArray++Builtin.zeroCells z.cells (grownCap w m c e-m)) e)):=by
 have hf:=run_firstCells_some (P:=P) w.drew inf.size m ⟨b2,o2,none⟩ m c2 M hM (fun j v hj=>by rw [qbv];simpa using m2 j v hj)
 have hroom:¬ (m≤c):=by omega
 have h63:¬ (9223372036854775807<(m:Int)):=by omega
 have h48:¬ (281474976710656<Builtin.nextslicecap m c*inf.bytes):=by
  have:=growslice_fits (need:=m) (old:=c) (bytes:=inf.bytes) hg (by omega)
  omega
 cases ad with
 | none =>
  have hfn:(Builtin.firstCells inf.size 0 (.slice none 0 c)).run P w.drew=.ok #[] w.drew:=rfl;simp [Builtin.append_,run_underlying ht,sizeOf,typeInfo,zeroValue,hi,hz,Builtin.lenOf,hroom,h63,h48,Question.forced,hf,newRow,grownCap,hfn]
 | some ad =>
  have hfo:=run_firstCells_some (P:=P) w.drew inf.size 0 ad 0 c [] (by simp) (by simp)
  simp [Builtin.append_,run_underlying ht,sizeOf,typeInfo,zeroValue,hi,hz,Builtin.lenOf,hroom,h63,h48,Question.forced,hf,newRow,grownCap,hfo]
theorem q3i {b n nw d:Nat} {B B':Blk} (h:(((H.set b .dead).set n .dead).set nw (.live B'))[d]?=some (.live B)):(d=nw∧B=B')∨(d≠nw∧d≠n∧d≠b∧H[d]?=some (.live B)):=by
 rcases qav h with ⟨h1,h2⟩ | ⟨h1,h⟩
 ·cases h2;exact .inl ⟨h1,rfl⟩
 ·rcases qav h with ⟨_,h⟩ | ⟨h2,h⟩
  ·cases h
  ·rcases qav h with ⟨_,h⟩ | ⟨h3,h⟩
   ·cases h
   ·exact .inr ⟨h1,h2,h3,h⟩
theorem qs4 (eh:EmbH Γ H w) {nw n b len:Nat} {t:Ty} {tt ty e:TypeId} {inf:TypeInfo} {z:Value} (ht:P.underlying tt=some (.slice e)) (hi:P.info? e=some inf) (hz:inf.zero=some z) (hsz:inf.size=1) (hzs:z.cells.size=1)
  (hk:H[nw]?=some .free) {r:List (Den t)} (hn:H[n]?=some (.live (.nest t [r] none))) (hbn:b≠n) (hbl:Live H b) {rows:List (List (Den t))} (hlen:len≤rows.length) (hb:len≠0→H[b]?=some (.live (.nest t rows none)))
  (hcur:Γ.κ b≠0→∃ cur el,w.heap[Γ.ν b]?=some (.cells cur el (0,0))∧cur.size=Γ.κ b∧∀ i,i<len→∃ v,cur[i]?=some v∧qge (Γ.R b i) (rows.getD i []).length v)
  {v1 v2:Value} (r1:Ra w Γ (.sl b 1 0 len none) v1) {c2:Option Nat} (r2:Ra w Γ (.sl n 1 0 1 c2) v2) (hbytes:(len+1)*inf.bytes≤1099511627776) (hb0:0<inf.bytes) :
  ∃ v w' Γ',(Builtin.append_ #[tt,tt] ty #[v1,v2]).run P w=.ok v w'∧(EmbH Γ' (((H.set b .dead).set n .dead).set nw (.live (.nest t (rows.take len++[r]) none))) w'∧Ext Γ H w Γ' (((H.set b .dead).set n .dead).set nw (.live (.nest t (rows.take len++[r]) none))) w') ∧
   Ra w' Γ' (.sl nw 1 0 (len+1) none) v:=by
 obtain ⟨hA1,ad,cap,rfl,hcap,hoff,hle⟩:=qca.1 r1;obtain ⟨hA2,ad2,cap2,rfl,hcap2,hoff2,hle2⟩:=qca.1 r2;simp only [Option.getD_none,Nat.sub_zero] at hcap;subst hcap;have had2:=hoff2 (by omega)
 subst had2;have hnk:n≠nw:=fun h=>by rw [h,hk] at hn;cases hn
 have hbk:b≠nw:=fun h=>by obtain ⟨B,hB⟩:=hbl;rw [h,hk] at hB;cases hB
 obtain ⟨q1,c3,el3,q2,q3,q4⟩:=(eh.blk n _ hn).nest_el ((eh.blk n _ hn).nest_ne (i:=0) (by simp))
 obtain ⟨_,q5⟩:=q4 0 (by simp)
 obtain ⟨u,q6,q7⟩:=q5 fun m h=>by cases h
 have q7:qge (Γ.R n 0) r.length u:=by simpa using q7
 have hcell:qa1 w (Γ.ν n) (0*1) [u]:=by
  intro j x hj
  cases j with
  | zero =>
   simp at hj;subst hj;simp only [World.cell?,q2,Option.isSome_none,wa2,if_false];exact q6
  | succ j=>simp at hj
 have hu1:=(q26 q7).2;have hsmall:len+1≤1099511627776:=Nat.le_trans (Nat.le_mul_of_pos_right _ hb0) hbytes;have hH:∀ d B,(((H.set b .dead).set n .dead).set nw (.live (.nest t (rows.take len++[r]) none)))[d]?=some (.live B)→(d=nw∧B=.nest t (rows.take len++[r]) none)∨(d≠nw∧d≠n∧(∀ s0:Option (Nat×Option Nat),(s0=some (b,none)∨len≠0)→d≠b)∧H[d]?=some (.live B)):=fun d B h=>by
  rcases q3i h with h | ⟨h1,h2,h3,h⟩
  ·exact .inl h
  ·exact .inr ⟨h1,h2,fun _ _=>h3,h⟩
 have hV:∀ (m b' i:Nat) (f:Bool),(((H.set b .dead).set n .dead).set nw (.live (.nest t (rows.take len++[r]) none)))[m]?=some (.view b' i f)→H[m]?=some (.view b' i f):=fun m b' i f h=>by
  rcases qb3 h with ⟨_,h⟩ | ⟨_,h⟩
  ·cases h
  ·rcases qb3 h with ⟨_,h⟩ | ⟨_,h⟩
   ·cases h
   ·rcases qb3 h with ⟨_,h⟩ | ⟨_,h⟩
    ·cases h
    ·exact h
 have hA:∀ d:Nat,(Γ.A d∨d=nw)↔∃ h:Hs,(((H.set b .dead).set n .dead).set nw (.live (.nest t (rows.take len++[r]) none)))[d]?=some h∧h≠.free:=fun d=>by
  by_cases hd:nw=d
  ·subst hd;rw [waw];simp [qbf hk]
  ·rw [wah hd];have hd':¬ d=nw:=fun h=>hd h.symm
   obtain ⟨B,hB⟩:=hbl;simp only [hd',or_false,eh.al];exact (qjp hB (by simp) d).trans (qjp (by rw [wah hbn];exact hn) (by simp) d)
 by_cases hroom:len+1≤Γ.κ b
 ·-- in its place
  have hk0:Γ.κ b≠0:=by omega
  obtain ⟨cur,el,k1,k2,k3⟩:=hcur hk0;have had:=hoff hk0;subst had;have hfit:0*1+len*inf.size+[u].length≤cur.size:=by rw [hsz,k2];simp;omega
  have hr:=qha (P:=P) (ty:=ty) ht hi k1 (off:=0*1) (b:=Γ.ν n) (o2:=0*1) (m:=1) (c:=cap2) (by rw [hsz];rfl) hcell (by simpa using hu1) hroom hfit
  have hfit':len+[u].length≤cur.size:=by simpa [hsz] using hfit
  have hidx:0*1+len*inf.size=len:=by rw [hsz];omega
  rw [hidx] at hr;obtain ⟨Γ',g0,g1,g2⟩:=eh.nestNew (w':=w.setRow (Γ.ν b) (qbb cur len [u])) (N:=Γ.ν b) (C:=Γ.κ b) (s0:=some (b,none)) hk hn hlen (fun h=>⟨hb h,hbn⟩) (fun k h1 h2=>qbz (h1 rfl)) (.inr ⟨rfl,rfl,hk0,hbl⟩) hroom (fun d B h=>(hH d B h).imp id fun ⟨h1,h2,h3,h4⟩=>⟨h1,h2,h3 _,h4⟩) hV hA
   (setRow_heap w _ cur _ el _ k1) (by rw [qb1 hfit'];exact k2) (fun i hi=>by
    obtain ⟨v,m1,m2⟩:=k3 i hi;exact ⟨v,by rw [qa2 hfit',if_neg (by omega)];exact m1,m2⟩) ⟨u,by rw [qa2 hfit',if_pos (by simp)];simp,q7⟩ (by simp) rfl rfl
  exact ⟨_,_,Γ',hr,⟨g1,g2⟩,qca.2 ⟨g0.1,_,Γ.κ b,rfl,by simp [g0.2.2],fun _=>by rw [g0.2.1],hroom⟩⟩
 ·-- it grows
  have grown:∀ (L:List Value) (hL:L.length=len) (hLh:∀ i,i<len→∃ v,L[i]?=some v∧qge (Γ.R b i) (rows.getD i []).length v)
    (hr:(Builtin.append_ #[tt,tt] ty #[.slice ad len (Γ.κ b),.slice (some ⟨Γ.ν n,0*1,none⟩) 1 cap2]).run P w=.ok (.slice (some ⟨w.heap.size,0,none⟩) (len+1) (grownCap w (len+1) (Γ.κ b) e)) (w.drew.alloc (.cells (L.toArray++[u].toArray++Builtin.zeroCells z.cells (grownCap w (len+1) (Γ.κ b) e-(len+1))) e))),
    ∃ v w' Γ',(Builtin.append_ #[tt,tt] ty #[.slice ad len (Γ.κ b),.slice (some ⟨Γ.ν n,0*1,none⟩) 1 cap2]).run P w=.ok v w'∧(EmbH Γ' (((H.set b .dead).set n .dead).set nw (.live (.nest t (rows.take len++[r]) none))) w'∧Ext Γ H w Γ' (((H.set b .dead).set n .dead).set nw (.live (.nest t (rows.take len++[r]) none))) w') ∧
     Ra w' Γ' (.sl nw 1 0 (len+1) none) v:=fun L hL hLh hr=>by
   have hge:=grownCap_ge w (len+1) (Γ.κ b) e;obtain ⟨Γ',g0,g1,g2⟩:=eh.nestNew (w':=w.drew.alloc (.cells (L.toArray++[u].toArray++Builtin.zeroCells z.cells (grownCap w (len+1) (Γ.κ b) e-(len+1))) e)) (N:=w.heap.size) (C:=grownCap w (len+1) (Γ.κ b) e) (s0:=none) (b:=b) hk hn hlen (fun h=>⟨hb h,hbn⟩) (fun k _ h2=>qb8 (w:=w.drew) h2) (.inl ⟨rfl,rfl,by simp⟩) hge (fun d B h=>(hH d B h).imp id fun ⟨h1,h2,h3,h4⟩=>⟨h1,h2,h3 _,h4⟩) hV hA
    (qc8 (w:=w.drew)) (by simp only [Array.size_append,List.size_toArray,size_zeroCells,hzs,hL,wa8];omega) (fun i hi=>by
     obtain ⟨v,m1,m2⟩:=hLh i hi;exact ⟨v,by rw [Array.getElem?_append_left (by simp;omega),Array.getElem?_append_left (by simpa using by omega)];simpa using m1,m2⟩) ⟨u,by rw [Array.getElem?_append_left (by simp;omega),Array.getElem?_append_right (by simp;omega)];simp [hL],q7⟩ (by simp) rfl rfl
   exact ⟨_,_,Γ',hr,⟨g1,g2⟩,qca.2 ⟨g0.1,_,grownCap w (len+1) (Γ.κ b) e,rfl,by simp [g0.2.2],fun _=>by rw [g0.2.1,Nat.zero_mul],hge⟩⟩
  by_cases hl0:len=0
  ·subst hl0;refine grown [] rfl (fun i hi=>by omega) ?_
   have:=qgp (P:=P) (w:=w) (ty:=ty) ht hi hz (ad:=ad) (b2:=Γ.ν n) (o2:=0*1) (c:=Γ.κ b) (c2:=cap2) (m:=1) (M:=[u]) (by rw [hsz];rfl) hcell (by omega) (by omega) (by omega)
   simpa using this
  ·have hk0:Γ.κ b≠0:=by omega
   obtain ⟨cur,el,k1,k2,k3⟩:=hcur hk0;have had:=hoff hk0;subst had;have hL:(cur.toList.take len).length=len:=by simp;omega
   have hLi:∀ i,i<len→(cur.toList.take len)[i]?=cur[i]?:=fun i hi=>by rw [wat,if_pos hi];simp
   refine grown (cur.toList.take len) hL (fun i hi=>by rw [hLi i hi];exact k3 i hi) ?_
   exact run_append_grow (P:=P) w tt ty e inf z ht hi hz ⟨Γ.ν b,0*1,none⟩ len (Γ.κ b) (cur.toList.take len) (by rw [hL,hsz];omega) (fun j v hj=>by
     have hjl:j<len:=by
      rcases Nat.lt_or_ge j len with h | h
      ·exact h
      ·rw [wac (by omega)] at hj;cases hj
     rw [hLi j hjl] at hj;rw [qbv];simp only [World.cell?,k1,Option.isSome_none,wa2,if_false,Nat.zero_mul,wa7];exact hj) ⟨Γ.ν n,0*1,none⟩ 1 cap2 [u] (by rw [hsz];rfl) (fun j v hj=>by rw [qbv];exact hcell j v hj) (by omega) (by omega)
    (growslice_fits (by omega) (by omega))
theorem q1i (em:Emb Γ S a w) {nw:Nat} {x y:Operand} {t e:TypeId} {te:Ty} {inf:TypeInfo} {z:Value} {o:Oper}
  (ht:P.underlying t=some (.slice e)) (hte:tyS P e=some te) (hi:P.info? e=some inf) (hz:inf.zero=some z) (hzs:z.cells.size=sz te) (hb0:0<inf.bytes)
  (ho:(execOp a.eval o).run P w=((Builtin.append_ #[t,t] o.type #[a.eval x,a.eval y]).run P w).andThen fun v w'=>.ok (.value v) w')
  {X Y:AV} (r1:Ra w Γ X (a.eval x)) (r2:Ra w Γ Y (a.eval y)) (hob:allP (appN S.H nw te inf.bytes Y X).ob):Does P Γ S.H w (appN S.H nw te inf.bytes Y X) ((execOp a.eval o).run P w):=by
 have eh:=em.heap;obtain ⟨inf',d,hi',_,hsz,_⟩:=qbd hte;rw [hi] at hi';cases hi';unfold appN q8i at hob ⊢;split at hob
 case h_2=>exact qaa hob
 rename_i n sy iy ly c2;split at hob
 case h_2=>exact qaa hob
 rename_i t' r hg;have hn:=qaw hg;split at hob
 case h_2=>exact qaa hob
 rename_i hcond;simp only [wa3,wba] at hcond;obtain ⟨hf,rfl,h1,h2,h3⟩:=hcond;have h1:=wai h1;have h2:=wai h2;have h3:=wai h3;subst h1;subst h2;subst h3;have hk:=qbp hf;have hNn:Nest S.H n:=⟨_,_,_,hn⟩;split at hob
 ·-- nothing before
  rename_i t2 c;split at hob
  case h_2=>exact qaa hob
  rename_i hc;simp only [wa3,wba] at hc;obtain ⟨rfl,hc⟩:=hc;have hc:=wai hc;subst hc;have hbytes:=allP_one.1 hob;obtain ⟨ad,hv1,_,_,_⟩:=qj0.1 r1;obtain ⟨hA2,ad2,cap2,hv2,hcap2,hoff2,hle2⟩:=qca.1 r2;have had2:=hoff2 (by omega)
  subst had2;obtain ⟨q1,c3,el3,q2,q3,q4⟩:=(eh.blk n _ hn).nest_el ((eh.blk n _ hn).nest_ne (i:=0) (by simp))
  obtain ⟨_,q5⟩:=q4 0 (by simp)
  obtain ⟨u,q6,q7⟩:=q5 fun m h=>by cases h
  have q7:qge (Γ.R n 0) r.length u:=by simpa using q7
  have hcell:qa1 w (Γ.ν n) (0*1) [u]:=by
   intro j x hj
   cases j with
   | zero =>
    simp at hj;subst hj;simp only [World.cell?,q2,Option.isSome_none,wa2,if_false];exact q6
   | succ j=>simp at hj
  have hr:=qgp (P:=P) (w:=w) (ty:=o.type) ht hi hz (ad:=ad) (b2:=Γ.ν n) (o2:=0*1) (c:=0) (c2:=cap2) (m:=1) (M:=[u]) (by rw [hsz];rfl) hcell (by omega) (by omega) (by omega)
  have hge:=grownCap_ge w 1 0 e;have hnk:n≠nw:=fun h=>by rw [h,hk] at hn;cases hn
  have hget:∀ d B,((S.H.set n .dead).set nw (.live (.nest t' [r] none)))[d]?=some (.live B)→(d=nw∧B=.nest t' [r] none)∨(d≠nw∧d≠n∧S.H[d]?=some (.live B)):=fun d B h=>by
   rcases qav h with ⟨h1,h2⟩ | ⟨h1,h⟩
   ·cases h2;exact .inl ⟨h1,rfl⟩
   ·rcases qav h with ⟨_,h⟩ | ⟨h2,h⟩
    ·cases h
    ·exact .inr ⟨h1,h2,h⟩
  have hzs1:z.cells.size=1:=hzs;obtain ⟨Γ',g0,g1,g2⟩:=eh.nestNew (w':=w.drew.alloc (.cells (([]:List Value).toArray++[u].toArray++Builtin.zeroCells z.cells (grownCap w 1 0 e-1)) e)) (N:=w.heap.size) (C:=grownCap w 1 0 e) (s0:=none) (b:=nw) (len:=0) (rows:=[]) (H':=(S.H.set n .dead).set nw (.live (.nest t' [r] none))) hk hn (wad _) (fun h=>absurd rfl h) (fun k _ h2=>qb8 (w:=w.drew) h2) (.inl ⟨rfl,rfl,by simp⟩) hge
   (fun d B h=>(hget d B h).imp id fun ⟨h1,h2,h3⟩=>⟨h1,h2,fun h=>by rcases h with h | h;cases h;exact absurd rfl h,h3⟩)
   (fun m b' i f h=>by
    rcases qb3 h with ⟨_,h⟩ | ⟨_,h⟩
    ·cases h
    ·rcases qb3 h with ⟨_,h⟩ | ⟨_,h⟩
     ·cases h
     ·exact h)
   (fun d=>by
    by_cases hd:nw=d
    ·subst hd;rw [waw];simp [qbf hk]
    ·rw [wah hd];have hd':¬ d=nw:=fun h=>hd h.symm
     simp only [hd',or_false,eh.al];exact qjp hn (by simp) d)
   (qc8 (w:=w.drew)) (by simp only [Array.size_append,List.size_toArray,size_zeroCells,hzs1,wa8,wa9];omega) (fun i hi=>by omega)
   ⟨u,by rw [Array.getElem?_append_left (by simp),Array.getElem?_append_right (by simp)];simp,q7⟩ (by simp) rfl rfl
  refine Does.new (v:=.slice (some ⟨w.heap.size,0,none⟩) 1 (grownCap w 1 0 e)) ?_ rfl ⟨g1,g2⟩ (qca.2 ⟨g0.1,_,grownCap w 1 0 e,rfl,by simp [g0.2.2],fun _=>by rw [g0.2.1,Nat.zero_mul],hge⟩)
  rw [ho,hv1,hv2];show ((Builtin.append_ #[t,t] o.type #[.slice ad 0 0,.slice (some ⟨Γ.ν n,0*1,none⟩) 1 cap2]).run P w).andThen _=_;rw [hr];rfl
 ·rename_i b s i len;split at hob
  ·rename_i t2 rows hgb;split at hob
   ·rename_i rows' hcl hcond;simp only [wa3,Bool.not_eq_true'] at hcond;obtain ⟨h1,h2,h3⟩:=hcond;have h1:=wai h1;have h2:=wai h2;subst h1;subst h2;obtain ⟨e1,e2⟩:=qbx hcl;cases e1;have e2:rows'=rows:=e2;subst e2;have hb:=qaw hgb;have hbn:b≠n:=fun h=>by rw [h,Nat.beq_refl] at h3;cases h3
    obtain ⟨hle,hob⟩:=qa0.1 hob;have hbytes:=allP_one.1 hob;obtain ⟨v,w',Γ',hr,g1,g2⟩:=qs4 (ty:=o.type) eh ht hi hz hsz hzs hk hn hbn ⟨_,hb⟩ hle (fun _=>hb) (fun hk0=>by
     obtain ⟨_,c,el,m1,m2,m3⟩:=(eh.blk b _ hb).nest_el hk0;exact ⟨c,el,m1,m2,fun i hi=>(m3 i (Nat.lt_of_lt_of_le hi hle)).2 fun m h=>by cases h⟩) r1 r2 hbytes hb0
    refine Does.new (v:=v) ?_ rfl g1 g2;rw [ho,hr];rfl
   ·exact qaa hob
  ·rename_i t2 hgb;split at hob
   case h_2=>exact qaa hob
   rename_i hcond;simp only [wa3,wba] at hcond;obtain ⟨rfl,h1,h2,h3⟩:=hcond;have h1:=wai h1;have h2:=wai h2;have h3:=wai h3;subst h1;subst h2;subst h3;have hb:=qaw hgb;have hbn:b≠n:=fun h=>by rw [h,hn] at hb;cases hb
   have hbytes:=allP_one.1 hob;obtain ⟨v,w',Γ',hr,g1,g2⟩:=qs4 (ty:=o.type) eh ht hi hz hsz hzs hk hn hbn ⟨_,hb⟩ (rows:=[]) (len:=0) (wad _) (fun h=>absurd rfl h) (fun hk0=>by
    have hB:=eh.blk b _ hb;simp only [RepB] at hB;obtain ⟨c,el,m1,m2,_⟩:=hB.2.2 hk0;exact ⟨c,el,m1,by simpa [sz] using m2,fun i hi=>by omega⟩) r1 r2 (by omega) hb0
   refine Does.new (v:=v) ?_ rfl g1 g2;rw [ho,hr];rfl
  ·exact qaa hob
 ·exact qaa hob
theorem quy (em:Emb Γ S a w) (sp:Spec) (base k:Nat) {tx ty:Option Ty} {x y:Operand} {x' y':Od} (hx:cOd tx x=some x') (hy:cOd ty y=some y') {t e:TypeId} {te:Ty} {inf:TypeInfo} {z:Value}
  (ht:P.underlying t=some (.slice e)) (hte:tyS P e=some te) (hi:P.info? e=some inf) (hz:inf.zero=some z) (hzs:z.cells.size=sz te) (hb0:0<inf.bytes) {o:Oper}
  (ho:(execOp a.eval o).run P w=((Builtin.append_ #[t,t] o.type #[a.eval x,a.eval y]).run P w).andThen fun v w'=>.ok (.value v) w')
  (hob:allP (aeff sp base S.T S.H (.append k te inf.bytes x' y')).ob):Does P Γ S.H w (aeff sp base S.T S.H (.append k te inf.bytes x' y')) ((execOp a.eval o).run P w):=by
 obtain ⟨inf',d,hi',_,hsz,_⟩:=qbd hte;rw [hi] at hi';cases hi';have r1:=qaj em hx;have r2:=qaj em hy;rw [aeff] at hob ⊢;have hob0:=qbh hob;clear hob;obtain ⟨p,hob⟩:=hob0;have r2:=qah r2 p
 revert hob
 dsimp only [p1]
 generalize (peel (ev S.T y')).2=Y at r2
 cases hns:qcp S.H Y with
 | true =>
  intro hob;obtain ⟨p2,hob⟩:=qbh hob;exact q1i em ht hte hi hz hzs hb0 ho (qah r1 p2) r2 hob
 | false =>
 cases hrv:rvL S.H te Y with
 | none=>exact fun hob=>qaa hob
 | some u =>
  obtain ⟨q,ys⟩:=u;simp only;intro hob;have hob0:=qag.1 hob;clear hob;obtain ⟨p2,hob⟩:=hob0;have r1:=qah r1 p2
  revert hob
  generalize (peel (ev S.T x')).2=X at r1;intro hob
  cases X with
  | vsl T xs c =>
   simp only at hob ⊢
   cases hc:qda T te xs with
   | none=>rw [hc] at hob;exact qaa hob
   | some zs =>
    rw [hc] at hob;simp only at hob ⊢;obtain ⟨e1,e2⟩:=qbx hc;subst e1;subst e2;split at hob
    ·rename_i hf;rw [if_pos hf];have hk:=qbp hf;obtain ⟨q1,q2⟩:=qag.1 hob;obtain ⟨q2,q3⟩:=qa0.1 q2;have q3:=allP_one.1 q3;obtain ⟨ad2,c2,hv2,hsrc⟩:=qf0 em.heap hns hrv q1 r2;obtain ⟨ad,hv1,hle,had,hat⟩:=qj0.1 r1;obtain ⟨Γ',w',cap,hr,g1,g2,g3⟩:=qg1 (ty:=o.type) ht hte hi hz hzs em.heap hk (c2:=c2) hat.src hsrc had hle q2 q3 hb0;refine Does.new (v:=.slice (some ⟨w.heap.size,0,none⟩) (zs.length+ys.length) cap) ?_ rfl ⟨g1,g2⟩ g3;rw [ho,hv1,hv2,hr];rfl
    ·exact qaa hob
  | sl b s i len c =>
   simp only at hob ⊢
   cases hg:hget S.H b with
   | none =>
    rw [hg] at hob;have hq:allP q:=zee hob;obtain ⟨ad2,c2,hv2,hsrc⟩:=qf0 em.heap hns hrv hq r2;have:=qzw em ht hte hi hz hzs hb0 ho r1 hv2 hsrc hob;unfold Does at this ⊢;exact this
   | some B =>
    have hH:=qaw hg;have hB:=em.heap.blk b B hH;rw [hg] at hob
    cases B with
    | arr T xs opn =>
     simp only at hob ⊢
     cases hc:qda T te xs with
     | none=>rw [hc] at hob;exact qaa hob
     | some zs =>
      rw [hc] at hob;simp only at hob ⊢;obtain ⟨e1,e2⟩:=qbx hc;subst e1;subst e2
      cases hcl:qrx opn c with
      | true =>
       rw [hcl] at hob;simp only at hob ⊢;have hoc:opn=false∧c=none:=by
        cases opn<;>cases c<;>simp [qrx] at hcl ⊢
       obtain ⟨rfl,rfl⟩:=hoc;obtain ⟨hA,ad,cap,hv1,hcap,hoff,hle⟩:=qca.1 r1
       by_cases hs:s=sz T
       ·rw [if_pos hs] at hob ⊢;obtain ⟨q1,q2⟩:=qag.1 hob;have q2:=allP_one.1 q2;obtain ⟨ad2,c2,hv2,hsrc⟩:=qf0 em.heap hns hrv q1 r2;simp only [Option.getD_none] at hcap;subst hcap;have hB':=hB;simp only [RepB] at hB';obtain ⟨k3,k4,hB'⟩:=hB';have k4:=k4 trivial;have hroom:len+ys.length≤Γ.κ b-i:=by omega
        by_cases h0:ys.length=0
        ·have hys:ys=[]:=wbf h0;subst hys;have hr:=qmm (P:=P) (w:=w) (ty:=o.type) ht hi (ad:=ad) (ad2:=ad2) (sLen:=len) (sCap:=Γ.κ b-i) (c:=c2) hle;have hset:S.H.set b (.live (.arr T zs false))=S.H:=by
          apply List.ext_getElem?;intro j;rw [waw];split
          ·rename_i hj;subst hj;split
           ·exact hH.symm
           ·rename_i hn;rw [wac (by omega)] at hH;cases hH
          ·rfl
         refine .inl ⟨.slice ad len (Γ.κ b-i),w,Γ,.inl ?_,?_,?_,?_⟩
         ·rw [ho,hv1,hv2];show ((Builtin.append_ #[t,t] o.type #[.slice ad len (Γ.κ b-i),.slice ad2 0 c2]).run P w).andThen _=_;rw [hr];rfl
         ·simp only [qar,setMany,hset];exact Ext.refl _ _ _
         ·simp only [qar,setMany,hset];exact em.heap
         ·exact qca.2 ⟨hA,ad,Γ.κ b-i,rfl,by simp,fun h=>by rw [hoff h,hs],by simpa using hle⟩
        ·obtain ⟨b2,o2,rfl⟩:=qh4 hsrc (by omega)
         obtain ⟨M,m1,m2⟩:=qiy hsrc;have hk0:Γ.κ b≠0:=by omega
         have had0:=hoff (by omega)
         subst had0;obtain ⟨cur,el,k1,k2,k5⟩:=hB' hk0;subst hs;have hfit:i*sz T+len*inf.size+M.length≤cur.size:=by
          rw [m1.1,hsz,k2,← Nat.add_mul,← Nat.add_mul];exact Nat.mul_le_mul_right _ (by omega)
         have hr:=qha (P:=P) (ty:=o.type) ht hi k1 (off:=i*sz T) (b:=b2) (o2:=o2) (m:=ys.length) (c:=c2) (by rw [m1.1,hsz]) m2 m1.oneCell hroom hfit
         have hI:∀ n,Γ.I n→(w.setRow (Γ.ν b) (qbb cur (i*sz T+len*inf.size) M)).heap[n]?=w.heap[n]?:=fun n hn=>qbz fun h=>em.heap.imm b ⟨_,hH⟩ hk0 (h▸hn)
         have hwr:=em.heap.write (w':=w.setRow (Γ.ν b) (qbb cur (i*sz T+len*inf.size) M)) (B':=.arr T (setMany zs (i+len) ys) false) hH hk0 (fun n hn=>qbz hn) (by simp) rfl rfl (by
          have hrow:=setRow_heap w (Γ.ν b) cur (qbb cur (i*sz T+len*inf.size) M) el _ k1;simp only [RepB];refine ⟨by rw [qbt];exact k3,fun _=>by rw [qbt];exact k4,fun _=>⟨_,el,hrow,by rw [qb1 hfit];exact k2,fun j x hx=>?_⟩⟩
          rw [hsz] at hfit ⊢;have hmul:i*sz T+len*sz T=(i+len)*sz T:=by rw [Nat.add_mul]
          rw [hmul] at hfit ⊢;rw [qdq ys zs (i+len) (by omega) j] at hx
          split at hx
          ·rename_i hj;have hseg:=m1.2 _ x hx;refine ⟨_,RepC.mono (fun _ h=>h) (by simpa [hsz,hmul] using hI) T x _ hseg,fun l v hl=>?_⟩
           rw [wat] at hl;split at hl
           ·rename_i hlt;rw [wbl] at hl;have hmul2:j*sz T=(i+len)*sz T+(j-(i+len))*sz T:=by rw [← Nat.add_mul];congr 1;omega
            have hbound:(j-(i+len))*sz T+l<M.length:=by
             rcases Nat.lt_or_ge ((j-(i+len))*sz T+l) M.length with h | h
             ·exact h
             ·rw [wac h] at hl;cases hl
            rw [qa2 hfit,if_pos (by omega),show j*sz T+l-(i+len)*sz T=(j-(i+len))*sz T+l by omega]
            exact hl
           ·cases hl
          ·rename_i hj;obtain ⟨cs,n1,n2⟩:=k5 j x hx;refine ⟨cs,RepC.mono (fun _ h=>h) (by simpa [hsz,hmul] using hI) T x cs n1,fun l v hl=>?_⟩
           have hl2:=RepC.length _ _ _ n1;have hlt:l<cs.length:=by
            rcases Nat.lt_or_ge l cs.length with h | h
            ·exact h
            ·rw [wac h] at hl;cases hl
           rw [qa2 hfit];have hML:M.length=ys.length*sz T:=m1.1
           by_cases hjl:j<i+len
           ·have:(j+1)*sz T≤(i+len)*sz T:=Nat.mul_le_mul_right _ hjl;rw [Nat.succ_mul] at this;rw [if_neg (by omega)]
            exact n2 l v hl
           ·have:(i+len+ys.length)*sz T≤j*sz T:=Nat.mul_le_mul_right _ (by omega)
            rw [Nat.add_mul] at this;rw [if_neg (by omega)]
            exact n2 l v hl)
         refine Does.new (v:=.slice (some ⟨Γ.ν b,i*sz T,none⟩) (len+ys.length) (Γ.κ b-i)) ?_ rfl hwr ?_
         ·rw [ho,hv1,hv2,hr];rfl
         ·exact qca.2 ⟨hA,_,Γ.κ b-i,rfl,by simp,fun h=>by simp,hroom⟩
       ·rw [if_neg hs] at hob;exact qaa hob
      | false =>
      rw [hcl] at hob;simp only at hob ⊢
      by_cases hcond:qay S.H (base+k)=true∧s=sz T
      ·rw [if_pos hcond] at hob ⊢;obtain ⟨hf,hs⟩:=hcond;have hk:=qbp hf;have hbk:b≠base+k:=fun h=>by subst h;rw [hH] at hk;cases hk
       obtain ⟨hA,ad,cap,hv1,hcap,hoff,hle⟩:=qca.1 r1
       cases c with
       | none =>
        simp only at hob ⊢
        by_cases hio:i=0∧opn=true
        ·rw [if_pos hio] at hob ⊢;obtain ⟨rfl,rfl⟩:=hio;obtain ⟨q1,q2⟩:=qag.1 hob;obtain ⟨q2,q3⟩:=qa0.1 q2;have q3:=allP_one.1 q3;obtain ⟨ad2,c2,hv2,hsrc⟩:=qf0 em.heap hns hrv q1 r2;obtain ⟨v,w',Γ',hr,g1,g2⟩:=qmn (ty:=o.type) ht hte hi hz hzs hb0 em.heap hH hk q2 (hs▸r1) (c2:=c2) hsrc q3;refine Does.new (v:=v) ?_ rfl g1 g2;rw [ho,hv2,hr];rfl
        ·rw [if_neg hio] at hob;exact qaa hob
       | some c =>
        simp only at hob ⊢;obtain ⟨q1,q2⟩:=qag.1 hob;obtain ⟨q2,q3⟩:=qa0.1 q2;obtain ⟨q3,q4⟩:=qa0.1 q3;have q4:=allP_one.1 q4;obtain ⟨ad2,c2,hv2,hsrc⟩:=qf0 em.heap hns hrv q1 r2;simp only [Option.getD_some] at hcap;subst hcap;have hlen:((zs.drop i).take len).length=len:=by rw [wan,wav];omega
        have hsrcX:qia w Γ.I T ((zs.drop i).take len) ad:=qu2 hB.arrE (fun h0=>by rw [hoff (by omega),hs])
        obtain ⟨Γ',w',cap',hr,g1,g2,g3⟩:=qg1 (ty:=o.type) ht hte hi hz hzs em.heap hk (c2:=c2) hsrcX hsrc (fun hn=>by apply Classical.byContradiction;intro hc;rw [hoff hc] at hn;cases hn) (by rw [hlen];exact hle) (by rw [hlen];exact q3) (by rw [hlen];exact q4) hb0
        rw [hlen] at hr g3;refine Does.new (v:=.slice (some ⟨w.heap.size,0,none⟩) (len+ys.length) cap') ?_ rfl ⟨g1,g2⟩ g3;rw [ho,hv1,hv2,hr];rfl
      ·rw [if_neg hcond] at hob;exact qaa hob
    | _=>exact qaa hob
  | _=>exact qaa hob
end
section
variable {P:Program} {Γ:Cx} {H:List Hs} {w:World} {S:St} {a:Act}
theorem quk {te:Ty} (hf:flat te=true) {Y:AV} {u:List Prop×List (Den te)} (h:rvL H te Y=some u):qcp H Y=false:=by
 cases Y with
 | sl n s i len c =>
  cases hg:hget H n with
  | none=>simp only [qcp,hg]
  | some B =>
   cases B with
   | nest t rows ho =>
    exfalso;have hh:=qms hg;have:arrElems H te n s=none:=by
     unfold arrElems;rw [hh]
     cases ho with
     | some p=>rfl
     | none =>
      simp only;split
      ·cases hc:qda (.slice t) te rows with
       | none=>rfl
       | some z =>
        obtain ⟨e1,_⟩:=qbx hc;rw [← e1] at hf;simp [flat] at hf
      ·rfl
    unfold rvL at h;simp only [rv,this] at h;cases h
   | _=>simp only [qcp,hg]
 | _=>rfl
theorem q1s {t u ty e:TypeId} {inf:TypeInfo} (ht:P.underlying t=some (.slice e)) (hi:P.info? e=some inf) {ad ad2:Option Addr} {dLen dCap m c:Nat} (h0:Nat.min m dLen=0) :
  (Builtin.copy_ #[t,u] ty #[.slice ad dLen dCap,.slice ad2 m c]).run P w=.ok (goInt 0) w:=by
 have hl0:∀ (x:Addr),(loadCells x 0).run P w=.ok #[] w:=fun x=>by simpa using run_loadCells_list (P:=P) w x [] (by simp)
 cases ad<;>cases ad2<;>simp [Builtin.copy_,run_underlying ht,sizeOf,typeInfo,hi,Builtin.lenOf,h0,Builtin.firstCells,hl0,storeCells]
theorem qyr {t u ty e:TypeId} {inf:TypeInfo} (ht:P.underlying t=some (.slice e)) (hi:P.info? e=some inf) {g off dLen dCap:Nat} {cur:Array Value} {el:TypeId} (hg:w.heap[g]?=some (.cells cur el (0,0)))
  {b o2 m c:Nat} {news:List Value} (hl:news.length=Nat.min m dLen*inf.size) (hnews:qa1 w b o2 news) (h1:∀ u∈news,u.oneCell'=true) (hfit:off+news.length≤cur.size) :
  (Builtin.copy_ #[t,u] ty #[.slice (some ⟨g,off,none⟩) dLen dCap,.slice (some ⟨b,o2,none⟩) m c]).run P w =
   .ok (goInt (Nat.min m dLen)) (w.setRow g (qbb cur off news)):=by
 have hf:=run_firstCells_some (P:=P) w inf.size (Nat.min m dLen) ⟨b,o2,none⟩ m c news hl (fun j v hj=>by rw [qbv];exact hnews j v hj)
 have hst:=run_storeCells_at P g off el news 0 cur w hg (by simpa using hfit) h1
 simp only [Nat.add_zero] at hst;simp [Builtin.copy_,run_underlying ht,sizeOf,typeInfo,hi,Builtin.lenOf,hf,hst,qbb]
theorem q50 (em:Emb Γ S a w) (sp:Spec) (base:Nat) {tx ty:Option Ty} {x y:Operand} {x' y':Od} (hx:cOd tx x=some x') (hy:cOd ty y=some y') {t u e:TypeId} {te:Ty}
  (ht:P.underlying t=some (.slice e)) (hte:tyS P e=some te) {o:Oper}
  (ho:(execOp a.eval o).run P w=((Builtin.copy_ #[t,u] o.type #[a.eval x,a.eval y]).run P w).andThen fun v w'=>.ok (.value v) w')
  (hob:allP (aeff sp base S.T S.H (.cpy te x' y')).ob):Does P Γ S.H w (aeff sp base S.T S.H (.cpy te x' y')) ((execOp a.eval o).run P w):=by
 obtain ⟨inf,d,hi,_,hsz,_⟩:=qbd hte;have r1:=qaj em hx;have r2:=qaj em hy;rw [aeff] at hob ⊢
 cases hf:flat te with
 | false=>rw [hf] at hob;exact qaa hob
 | true =>
 rw [hf] at hob;simp only at hob ⊢;obtain ⟨p,hob⟩:=qbh hob;have r2:=qah r2 p
 revert hob
 dsimp only [p1]
 generalize (peel (ev S.T y')).2=Y at r2
 cases hrv:rvL S.H te Y with
 | none=>exact fun hob=>qaa hob
 | some z =>
  obtain ⟨q,ys⟩:=z;have hns:=quk hf hrv;simp only;intro hob;obtain ⟨p2,hob⟩:=qag.1 hob;have r1:=qah r1 p2
  revert hob
  generalize (peel (ev S.T x')).2=X at r1;intro hob
  cases X with
  | sl b s i len c =>
   simp only at hob ⊢
   cases hg:hget S.H b with
   | none=>rw [hg] at hob;exact qaa hob
   | some B =>
    have hH:=qaw hg;have hB:=em.heap.blk b B hH;rw [hg] at hob
    cases B with
    | arr T xs opn =>
     simp only at hob ⊢
     cases hc:qda T te xs with
     | none=>rw [hc] at hob;exact qaa hob
     | some zs =>
      rw [hc] at hob;simp only at hob ⊢;obtain ⟨e1,e2⟩:=qbx hc;subst e1;subst e2;obtain ⟨hA,ad,cap,hv1,hcap,hoff,hle⟩:=qca.1 r1
      by_cases hs:s=sz T
      ·rw [if_pos hs] at hob ⊢;obtain ⟨q1,q2⟩:=qag.1 hob;have q2:=allP_one.1 q2;obtain ⟨ad2,c2,hv2,hsrc⟩:=qf0 em.heap hns hrv q1 r2;have hB':=hB;simp only [RepB] at hB';obtain ⟨k3,k4,hB'⟩:=hB'
       by_cases h0:Nat.min ys.length len=0
       ·have hr:=q1s (P:=P) (w:=w) (u:=u) (ty:=o.type) ht hi (ad:=ad) (ad2:=ad2) (dLen:=len) (dCap:=cap) (c:=c2) h0;have htk:ys.take len=[]:=by
         rw [List.take_eq_nil_iff]
         rcases Nat.eq_zero_or_pos len with h | h
         ·exact .inl h
         ·refine .inr (wbf ?_)
          rcases Nat.le_total ys.length len with h' | h'
          ·rwa [show Nat.min ys.length len=ys.length from Nat.min_eq_left h'] at h0
          ·rw [show Nat.min ys.length len=len from Nat.min_eq_right h'] at h0;omega
        have hset:S.H.set b (.live (.arr T zs opn))=S.H:=by
         apply List.ext_getElem?;intro j;rw [waw];split
         ·rename_i hj;subst hj;split
          ·exact hH.symm
          ·rename_i hn;rw [wac (by omega)] at hH;cases hH
         ·rfl
        refine .inl ⟨goInt 0,w,Γ,.inl ?_,?_,?_,?_⟩
        ·rw [ho,hv1,hv2,hr];rfl
        ·simp only [qar,htk,setMany,hset];exact Ext.refl _ _ _
        ·simp only [qar,htk,setMany,hset];exact em.heap
        ·rw [h0];exact qcq.2 rfl
       ·have hn0:ys.length≠0∧len≠0:=by
         constructor<;>intro h<;>apply h0<;>rw [h]
         ·exact Nat.zero_min _
         ·exact Nat.min_zero _
        have hmin:(ys.take len).length=Nat.min ys.length len:=by rw [wan,Nat.min_comm]
        have hmin2:Nat.min ys.length len≤len:=Nat.min_le_right _ _;have hsrc':=q4c hsrc len;obtain ⟨b2,o2,rfl⟩:=qh4 hsrc (by omega)
        obtain ⟨M,m1,m2⟩:=qiy hsrc';have hk0:Γ.κ b≠0:=by omega
        have hcap0:cap≠0:=by omega
        have had0:=hoff hcap0;subst had0;obtain ⟨cur,el,k1,k2,k5⟩:=hB' hk0;subst hs;have hlm:(ys.take len).length≤len:=by rw [hmin];exact hmin2
        have hfit:i*sz T+M.length≤cur.size:=by
         rw [m1.1,k2,← Nat.add_mul];exact Nat.mul_le_mul_right _ (by omega)
        have hr:=qyr (P:=P) (u:=u) (ty:=o.type) ht hi k1 (off:=i*sz T) (dLen:=len) (dCap:=cap) (b:=b2) (o2:=o2) (m:=ys.length) (c:=c2) (by rw [m1.1,hsz,hmin]) m2 m1.oneCell hfit
        have hI:∀ n,Γ.I n→(w.setRow (Γ.ν b) (qbb cur (i*sz T) M)).heap[n]?=w.heap[n]?:=fun n hn=>qbz fun h=>em.heap.imm b ⟨_,hH⟩ hk0 (h▸hn)
        have hwr:=em.heap.write (w':=w.setRow (Γ.ν b) (qbb cur (i*sz T) M)) (B':=.arr T (setMany zs i (ys.take len)) opn) hH hk0 (fun n hn=>qbz hn) (by simp) rfl rfl (by
         have hrow:=setRow_heap w (Γ.ν b) cur (qbb cur (i*sz T) M) el _ k1;simp only [RepB];refine ⟨by rw [qbt];exact k3,fun ho=>by rw [qbt];exact k4 ho,fun _=>⟨_,el,hrow,by rw [qb1 hfit];exact k2,fun j x hx=>?_⟩⟩
         rw [qdq (ys.take len) zs i (by omega) j] at hx
         split at hx
         ·rename_i hj;have hseg:=m1.2 _ x hx;refine ⟨_,RepC.mono (fun _ h=>h) hI T x _ hseg,fun l v hl=>?_⟩
          rw [wat] at hl;split at hl
          ·rename_i hlt;rw [wbl] at hl;have hmul2:j*sz T=i*sz T+(j-i)*sz T:=by rw [← Nat.add_mul,show i+(j-i)=j by omega]
           have hbound:(j-i)*sz T+l<M.length:=by
            rcases Nat.lt_or_ge ((j-i)*sz T+l) M.length with h | h
            ·exact h
            ·rw [wac h] at hl;cases hl
           rw [qa2 hfit,if_pos (by omega),show j*sz T+l-i*sz T=(j-i)*sz T+l by omega]
           exact hl
          ·cases hl
         ·rename_i hj;obtain ⟨cs,n1,n2⟩:=k5 j x hx;refine ⟨cs,RepC.mono (fun _ h=>h) hI T x cs n1,fun l v hl=>?_⟩
          have hl2:=RepC.length _ _ _ n1;have hlt:l<cs.length:=by
           rcases Nat.lt_or_ge l cs.length with h | h
           ·exact h
           ·rw [wac h] at hl;cases hl
          rw [qa2 hfit];have hML:M.length=(ys.take len).length*sz T:=m1.1
          by_cases hjl:j<i
          ·have:(j+1)*sz T≤i*sz T:=Nat.mul_le_mul_right _ hjl;rw [Nat.succ_mul] at this;rw [if_neg (by omega)]
           exact n2 l v hl
          ·have:(i+(ys.take len).length)*sz T≤j*sz T:=Nat.mul_le_mul_right _ (by omega)
           rw [Nat.add_mul] at this;rw [if_neg (by omega)]
           exact n2 l v hl)
        refine Does.new (v:=goInt (Nat.min ys.length len)) ?_ rfl hwr (qcq.2 rfl);rw [ho,hv1,hv2,hr];rfl
      ·rw [if_neg hs] at hob;exact qaa hob
    | _=>exact qaa hob
  | _=>exact qaa hob
end
section
variable {P:Program} {Γ:Cx} {H:List Hs} {w:World} {S:St} {a:Act}
def qmp (w:World) (Γ:Cx) (T:List AV) (a:Act) (place:Nat→Option (Nat×Nat)):List (Nat×Operand)→List (Nat×Ty×Od)→Prop
 | [],[]=>True
 | (i,x)::ps,(off,te,od)::l=>place i=some (off,sz te)∧Ra w Γ (ev T od) (a.eval x)∧qmp w Γ T a place ps l
 | _,_=>False
theorem qof {c:Array Value} {off:Nat} {L:List Value} (h1:∀ u∈c.toList,u.oneCell'=true) (h2:∀ u∈L,u.oneCell'=true):∀ u∈(qbb c off L).toList,u.oneCell'=true:=by
 intro u hu;simp only [qbb,List.mem_append] at hu
 rcases hu with (hu | hu) | hu
 ·exact h1 u (List.mem_of_mem_take hu)
 ·exact h2 u hu
 ·exact h1 u (List.mem_of_mem_drop hu)
theorem qpc {T:List AV} {place:Nat→Option (Nat×Nat)}:∀ {ps:List (Nat×Operand)} {l:List (Nat×Ty×Od)} {z cs:List AV} {cells:Array Value},qmp w Γ T a place ps l→Fa w Γ z cells.toList →
  (∀ u∈cells.toList,u.oneCell'=true)→qc1 T z l=some cs →
  ∃ cells',Instr.fill place cells (ps.map fun p=>(p.1,a.eval p.2))=some cells'∧Fa w Γ cs cells'.toList∧(∀ u∈cells'.toList,u.oneCell'=true)
 | [],[],z,cs,cells,_,hf,h1,hb=>by
  simp only [qc1,waz] at hb;subst hb;exact ⟨cells,rfl,hf,h1⟩
 | (i,x)::ps,(off,te,od)::l,z,cs,cells,hp,hf,h1,hb=>by
  obtain ⟨p1,p2,p3⟩:=hp;simp only [qc1] at hb;split at hb
  ·rename_i cs1 hc;split at hb
   ·rename_i hfit;obtain ⟨c1,c2,c3⟩:=qj4 hc p2;have hl:=hf.length;have hl2:=c1.length;simp only [Array.length_toList] at hl hl2;obtain ⟨cells',q1,q2,q3⟩:=qpc p3 (hf.setMany c1 (by omega)) (qof h1 c3) hb
    refine ⟨cells',?_,q2,q3⟩;simp only [wbd,Instr.fill,p1];rw [if_neg (by simp;omega),qko (by omega)]
    exact q1
   ·cases hb
  ·cases hb
 | [],_::_,_,_,_,h,_,_,_=>h.elim
 | _::_,[],_,_,_,h,_,_,_=>h.elim
theorem qs0 (em:Emb Γ S a w) {fs:Array Field} {pl:Array (Nat×Nat)}:∀ {ps:List (Nat×Operand)} {l:List (Nat×Ty×Od)},qqh P fs pl ps=some l→qmp w Γ S.T a (pl[·]?) ps l
 | [],l,h=>by simp only [qqh,waz] at h;subst h;trivial
 | (i,x)::ps,l,h=>by
  simp only [qqh] at h;split at h
  ·rename_i f off n h1 h2;split at h
   ·rename_i te l' h3 h4;split at h
    ·rename_i od h5;split at h
     ·rename_i hn;cases h;exact ⟨by show pl[i]?=_;rw [h2,hn],qaj em h5,qs0 em h4⟩
     ·cases h
    ·cases h
   ·cases h
  ·cases h
theorem qpy (em:Emb Γ S a w) {te:Ty}:∀ {ps:List (Nat×Operand)} {l:List (Nat×Ty×Od)},qku te ps=some l→qmp w Γ S.T a (fun i=>some (i*sz te,sz te)) ps l
 | [],l,h=>by simp only [qku,waz] at h;subst h;trivial
 | (i,x)::ps,l,h=>by
  simp only [qku] at h;split at h
  ·rename_i od l' h1 h2;cases h;exact ⟨rfl,qaj em h1,qpy em h2⟩
  ·cases h
theorem qnj (em:Emb Γ S a w) (sp:Spec) (base:Nat) {fl:Bool} {t:TypeId} {ty:Ty} {z:Value} {place:Nat→Option (Nat×Nat)} {ps:Array (Nat×Operand)} {l:List (Nat×Ty×Od)}
  (hp:qmp w Γ S.T a place ps.toList l) (hsz:z.cells.size=sz ty) (hag:isAgg ty=true) (h1:z.cells.toList.all Value.oneCell'=true)
  (hrun:∀ cells,Instr.fill place z.cells (ps.toList.map fun p=>(p.1,a.eval p.2))=some cells→P.built t (ps.toList.map fun p=>(p.1,a.eval p.2))=some cells)
  {o:Oper} (ho:o.op=.build t ps)
  (hob:allP (aeff sp base S.T S.H (.build ty fl (qix ty z.cells.toList) l)).ob):Does P Γ S.H w (aeff sp base S.T S.H (.build ty fl (qix ty z.cells.toList) l)) ((execOp a.eval o).run P w):=by
 rw [aeff] at hob ⊢
 cases hb:qc1 S.T (qix ty z.cells.toList) l with
 | none=>rw [hb] at hob;exact qaa hob
 | some cs =>
  rw [hb] at hob;simp only at hob ⊢;obtain ⟨cells,q1,q2,q3⟩:=qpc hp (qgg ty _ (by simpa using hsz)) (List.all_eq_true.1 h1) hb
  have hr:(execOp a.eval o).run P w=.ok (.value (.agg cells)) w:=by
   have hm:(ps.map fun (p:Nat×Operand)=>(p.1,a.eval p.2)).toList=ps.toList.map fun p=>(p.1,a.eval p.2):=by simp
   have:=run_build (P:=P) w t (ps.map fun (p:Nat×Operand)=>(p.1,a.eval p.2)) cells (by rw [hm];exact hrun cells q1)
   simp [execOp,ho,this]
  cases hof:(cond fl none (qci ty cs):Option (Den ty)) with
  | some x =>
   simp only;have hof':qci ty cs=some x:=by
    cases fl with
    | true=>cases hof
    | false=>exact hof
   exact Does.val em.heap hr rfl (Ra_val.2 ⟨_,qeg ty cs _ x hof' q2,by simp [mkV,hag]⟩)
  | none =>
   rw [hof] at hob;simp only at hob ⊢;split at hob
   ·rename_i hh;rw [if_pos hh];refine Does.val em.heap hr rfl ?_;simp only [Ef.ok,Ra,Rp,wa0,and_true];exact ⟨cells.toList,rfl,qds.2 q2,q3⟩
   ·exact qaa hob
theorem qu1 (em:Emb Γ S a w) (sp:Spec) (base:Nat) {fl:Bool} {t:TypeId} {ty:Ty} {z:Value} {inf:TypeInfo} {fs:Array Field} {pl:List (Nat×Nat)} {ps:Array (Nat×Operand)} {l:List (Nat×Ty×Od)}
  (hi:P.info? t=some inf) (hu:P.underlying t=some (.struct fs)) (hz:inf.zero=some z) (hpl:fs.toList.mapM (fun f=>(P.info? f.type).map fun i=>(f.offset,i.size))=some pl)
  (hp:qqh P fs pl.toArray ps.toList=some l) (hsz:z.cells.size=sz ty) (hag:isAgg ty=true) (h1:z.cells.toList.all Value.oneCell'=true)
  {o:Oper} (ho:o.op=.build t ps)
  (hob:allP (aeff sp base S.T S.H (.build ty fl (qix ty z.cells.toList) l)).ob):Does P Γ S.H w (aeff sp base S.T S.H (.build ty fl (qix ty z.cells.toList) l)) ((execOp a.eval o).run P w) :=
 qnj em sp base (qs0 em hp) hsz hag h1 (fun cells hc=>by simp only [Program.built,hi,hu,hz,hpl];exact hc) ho hob
theorem qug (em:Emb Γ S a w) (sp:Spec) (base:Nat) {fl:Bool} {t e:TypeId} {n:Nat} {ty te:Ty} {z:Value} {inf:TypeInfo} {ps:Array (Nat×Operand)} {l:List (Nat×Ty×Od)}
  (hi:P.info? t=some inf) (hu:P.underlying t=some (.array n e)) (hz:inf.zero=some z) (hte:tyS P e=some te)
  (hp:qku te ps.toList=some l) (hsz:z.cells.size=sz ty) (hag:isAgg ty=true) (h1:z.cells.toList.all Value.oneCell'=true)
  {o:Oper} (ho:o.op=.build t ps)
  (hob:allP (aeff sp base S.T S.H (.build ty fl (qix ty z.cells.toList) l)).ob):Does P Γ S.H w (aeff sp base S.T S.H (.build ty fl (qix ty z.cells.toList) l)) ((execOp a.eval o).run P w):=by
 obtain ⟨ie,d,hie,_,hs,_⟩:=qbd hte;exact qnj em sp base (qpy em hp) hsz hag h1 (fun cells hc=>by simp only [Program.built,hi,hu,hz,hie,hs];exact hc) ho hob
theorem qlu {e:TypeId} {i:TypeInfo} (h:P.info? e=some i):P.cellsOf e=i.size:=by simp [Program.cellsOf,h]
theorem qja {e:TypeId} {te:Ty} {i:TypeInfo} {d:Nat} {I:Nat→Prop} (hi:P.info? e=some i) (hs:i.size=sz te) (ht:tyS P e=some te)
  (IH:∀ (x y:Den te) (cs ds:List Value),RepC w I te x cs→RepC w I te y ds→(Op.equalIn d e (mkV te cs) (mkV te ds)).run P w=.ok (deq te x y) w) {xs ys:Array Value} :
  ∀ (m k:Nat) (x y:Den (arrT m te)),RepC w I (arrT m te) x (xs.toList.drop (k*sz te))→RepC w I (arrT m te) y (ys.toList.drop (k*sz te)) →
   (Op.eqItems d e (P.cellsOf e) xs ys (List.range' k m)).run P w=.ok (deq (arrT m te) x y) w
 | 0,k,x,y,_,_=>by simp [Op.eqItems,arrT,deq]
 | m+1,k,x,y,hx,hy=>by
  simp only [arrT,RepC] at hx hy;obtain ⟨x1,x2,e1,hx1,hx2⟩:=hx;obtain ⟨y1,y2,e2,hy1,hy2⟩:=hy;have lx:=RepC.length _ _ _ hx1;have ly:=RepC.length _ _ _ hy1;have tx:(xs.toList.drop (k*sz te)).take (sz te)=x1:=by rw [e1,← lx];simp
  have ty:(ys.toList.drop (k*sz te)).take (sz te)=y1:=by rw [e2,← ly];simp
  have dx:xs.toList.drop ((k+1)*sz te)=x2:=by rw [Nat.succ_mul,← wbk,e1,← lx];simp
  have dy:ys.toList.drop ((k+1)*sz te)=y2:=by rw [Nat.succ_mul,← wbk,e2,← ly];simp
  have px:=qdk (w:=w) ht (cs:=xs) (off:=k*sz te) (by rw [tx];exact hx1)
  have py:=qdk (w:=w) ht (cs:=ys) (off:=k*sz te) (by rw [ty];exact hy1)
  rw [tx] at px;rw [ty] at py;rw [List.range'_succ,qlu hi,hs];have ih:=qja hi hs ht IH m (k+1) x.2 y.2 (by rw [dx];exact hx2) (by rw [dy];exact hy2)
  rw [qlu hi,hs] at ih;have h0:=IH x.1 y.1 x1 y1 hx1 hy1;simp only [Op.eqItems,Sem.run_bind,px,py,wbp,h0];show (if (!deq te x.1 y.1)=true then pure false else Op.eqItems d e (sz te) xs ys (List.range' (k+1) m)).run P w=.ok (deq te x.1 y.1 && deq (arrT m te) x.2 y.2) w
  cases deq te x.1 y.1
  ·rfl
  ·simpa using ih
theorem qin {d:Nat} {I:Nat→Prop} {rec:TypeId→Ty→Bool}
  (IH:∀ (t:TypeId) (ty:Ty) (x y:Den ty) (cs ds:List Value),rec t ty=true→isAgg ty=(match P.underlying t with | some d=>aggD d | none=>false)→RepC w I ty x cs→RepC w I ty y ds→(Op.equalIn d t (mkV ty cs) (mkV ty ds)).run P w=.ok (deq ty x y) w) {xs ys:Array Value} :
  ∀ (fs:List Field) (off:Nat) (ty:Ty) (x y:Den ty),eqFs P rec off fs ty=true→RepC w I ty x (xs.toList.drop off)→RepC w I ty y (ys.toList.drop off)→(Op.eqFields d xs ys fs).run P w=.ok (deq ty x y) w
 | [],off,.unit,x,y,_,_,_=>by simp [Op.eqFields,deq]
 | f::fs,off,.prod a b,x,y,h,hx,hy=>by
  simp only [eqFs] at h;split at h
  ·rename_i te i d0 h1 h2 h3;simp only [wa3,wba,beq_iff_eq,Bool.not_eq_true'] at h;obtain ⟨⟨⟨⟨⟨⟨e1,e2⟩,e3⟩,e4⟩,e5⟩,e6⟩,e7⟩:=h;subst e1;subst e5;simp only [RepC] at hx hy;obtain ⟨x1,x2,ex,hx1,hx2⟩:=hx;obtain ⟨y1,y2,ey,hy1,hy2⟩:=hy;have lx:=RepC.length _ _ _ hx1;have ly:=RepC.length _ _ _ hy1;have tx:(xs.toList.drop f.offset).take (sz a)=x1:=by rw [ex,← lx];simp
   have ty:(ys.toList.drop f.offset).take (sz a)=y1:=by rw [ey,← ly];simp
   have dx:xs.toList.drop (f.offset+sz a)=x2:=by rw [← wbk,ex,← lx];simp
   have dy:ys.toList.drop (f.offset+sz a)=y2:=by rw [← wbk,ey,← ly];simp
   have px:=qdk (w:=w) h1 (cs:=xs) (off:=f.offset) (by rw [tx];exact hx1)
   have py:=qdk (w:=w) h1 (cs:=ys) (off:=f.offset) (by rw [ty];exact hy1)
   rw [tx] at px;rw [ty] at py;have h0:=IH f.type a x.1 y.1 x1 y1 e2 (by rw [h3];exact e4.symm) hx1 hy1
   have ih:=qin IH fs (f.offset+sz a) b x.2 y.2 e7 (by rw [dx];exact hx2) (by rw [dy];exact hy2)
   have hname : f.name ≠ "_" := by simpa using e6
   have hd:deq (.prod a b) x y=(deq a x.1 y.1 && deq b x.2 y.2):=rfl;rw [hd];simp only [Op.eqFields,hname,ne_eq,not_false_eq_true,if_true,Sem.run_bind,px,py,wbp,h0];cases deq a x.1 y.1
   ·rfl
   ·simpa using ih
  ·cases h
 | [],off,.int _,_,_,h,_,_=>by simp [eqFs] at h
 | [],off,.bool,_,_,h,_,_=>by simp [eqFs] at h
 | [],off,.prod _ _,_,_,h,_,_=>by simp [eqFs] at h
 | [],off,.slice _,_,_,h,_,_=>by simp [eqFs] at h
 | [],off,.ptr _,_,_,h,_,_=>by simp [eqFs] at h
 | [],off,.optr _,_,_,h,_,_=>by simp [eqFs] at h
 | [],off,.map _ _,_,_,h,_,_=>by simp [eqFs] at h
 | [],off,.oth,_,_,h,_,_=>by simp [eqFs] at h
 | _::_,off,.int _,_,_,h,_,_=>by simp [eqFs] at h
 | _::_,off,.bool,_,_,h,_,_=>by simp [eqFs] at h
 | _::_,off,.unit,_,_,h,_,_=>by simp [eqFs] at h
 | _::_,off,.slice _,_,_,h,_,_=>by simp [eqFs] at h
 | _::_,off,.ptr _,_,_,h,_,_=>by simp [eqFs] at h
 | _::_,off,.optr _,_,_,h,_,_=>by simp [eqFs] at h
 | _::_,off,.map _ _,_,_,h,_,_=>by simp [eqFs] at h
 | _::_,off,.oth,_,_,h,_,_=>by simp [eqFs] at h
theorem quf {t:TypeId} {fs:Array Field} (h:P.underlying t=some (.struct fs)):P.fieldsOf t=fs:=by simp [Program.fieldsOf,h]
theorem qef {I:Nat→Prop}:∀ (n d:Nat) (t:TypeId) (ty:Ty) (x y:Den ty) (cs ds:List Value),n≤d→eqT P n t ty=true→isAgg ty=(match P.underlying t with | some d=>aggD d | none=>false)→RepC w I ty x cs→RepC w I ty y ds →
  (Op.equalIn d t (mkV ty cs) (mkV ty ds)).run P w=.ok (deq ty x y) w
 | 0,_,_,_,_,_,_,_,_,h,_,_,_=>by simp [eqT] at h
 | n+1,0,_,_,_,_,_,_,h,_,_,_,_=>by omega
 | n+1,d+1,t,ty,x,y,cs,ds,hd,h,hag,hx,hy=>by
  cases hu:P.underlying t with
  | none=>simp [eqT,hu] at h
  | some d0 =>
   simp only [eqT,hu] at h;rw [hu] at hag
   cases d0 with
   | int k =>
    cases ty with
    | int k' =>
     simp only [beq_iff_eq] at h;subst h;simp only [RepC] at hx hy;subst hx;subst hy;simp [Op.equalIn,run_underlying hu,mkV,isAgg,deq,ieq]
    | _=>cases h
   | bool =>
    cases ty with
    | bool =>
     simp only [RepC] at hx hy;subst hx;subst hy;simp [Op.equalIn,run_underlying hu,mkV,isAgg,deq,beqB]
    | _=>cases h
   | array l e =>
    simp only at h;split at h
    ·rename_i te ie de h1 h2 h3;simp only [wa3,wba,beq_iff_eq] at h;obtain ⟨⟨⟨⟨e1,e2⟩,e3⟩,e4⟩,e5⟩:=h;subst e1;have hm:∀ cs:List Value,mkV (arrT l te) cs=.agg cs.toArray:=fun cs=>by simp [mkV,hag,aggD]
     have hd':n≤d:=by omega
     have hIH:=fun (x y:Den te) (cs ds:List Value) hx hy=>qef (I:=I) n d e te x y cs ds hd' e2 (by rw [h3];exact e4.symm) hx hy
     rw [hm,hm,run_equalIn_array w d _ _ hu h2,List.range_eq_range'];exact qja h2 e3 h1 hIH l 0 x y (by simpa using hx) (by simpa using hy)
    ·cases h
   | struct fs =>
    simp only [wa3,Bool.not_eq_true'] at h;have hm:∀ cs:List Value,mkV ty cs=.agg cs.toArray:=fun cs=>by simp [mkV,hag,aggD]
    have hd':n≤d:=by omega
    have hf:=quf hu;rw [hm,hm,run_equalIn_struct w d t _ _ (by rw [hf];exact hu) h.1,hf]
    exact qin (fun t ty x y cs ds hr ha hx hy=>qef (I:=I) n d t ty x y cs ds hd' hr ha hx hy) fs.toList 0 ty x y h.2 (by simpa using hx) (by simpa using hy)
   | _=>cases h
theorem qww (em:Emb Γ S a w) (sp:Spec) (base:Nat) {tx ty:Option Ty} {x y:Operand} {x' y':Od} {op:BinOp} {neg:Bool} (hx:cOd tx x=some x') (hy:cOd ty y=some y') (hop:op=if neg then .neq else .eql)
  {o:Oper} {xt yt:TypeId} {t:Ty} {d:TypeDesc} (hu:P.underlying xt=some d) (hint:∀ k,d≠.int k) (ht:tyS P xt=some t) (he:eqT P 12 xt t=true) (hg:P.eqGuardType P.depth xt=false)
  (ho:o.op=.binOp op xt x y yt) (hob:allP (aeff sp base S.T S.H (.eqv neg t x' y')).ob):Does P Γ S.H w (aeff sp base S.T S.H (.eqv neg t x' y')) ((execOp a.eval o).run P w):=by
 have r1:=qaj em hx;have r2:=qaj em hy;rw [aeff] at hob ⊢;obtain ⟨p,hob⟩:=qbh hob;obtain ⟨q,hob⟩:=qbh hob;have r1:=qah r1 p;have r2:=qah r2 q;show Does P Γ S.H w (match asD t (peel (ev S.T x')).2,asD t (peel (ev S.T y')).2 with | some a,some b=>_ | _,_=>_) _
 cases h1:asD t (peel (ev S.T x')).2 with
 | none=>rw [h1] at hob;exact qaa hob
 | some u=>cases h2:asD t (peel (ev S.T y')).2 with
  | none=>rw [h1,h2] at hob;exact qaa hob
  | some v =>
   rw [h1,h2] at hob;simp only at hob ⊢;split at hob
   ·rename_i hq;rw [if_pos hq];obtain ⟨cs,c1,c2⟩:=qeb h1 r1;obtain ⟨ds,d1,d2⟩:=qeb h2 r2;obtain ⟨i,d',hi,hu',hsz,hag⟩:=qbd ht;rw [hu] at hu';cases hu';have heq:=qef (w:=w) 12 Op.maxDepth xt t u v cs ds (by decide) he (by rw [hu];exact hag.symm) c1 d1
    have hgr:(eqGuard op xt x y (mkV t cs) (mkV t ds)).run P w=.ok () w:=by
     cases d with
     | int k=>exact absurd rfl (hint k)
     | bool =>
      cases t with
      | bool =>
       simp only [RepC] at c1 d1;subst c1;subst d1;subst hop;cases neg<;>rfl
      | _=>simp [eqT,hu] at he
     | array l e =>
      have hm:∀ cs:List Value,mkV t cs=.agg cs.toArray:=fun cs=>by simp [mkV,← hag,aggD]
      rw [hm,hm];subst hop;cases neg<;>simp [eqGuard,hg]
     | struct fs =>
      have hm:∀ cs:List Value,mkV t cs=.agg cs.toArray:=fun cs=>by simp [mkV,← hag,aggD]
      rw [hm,hm];subst hop;cases neg<;>simp [eqGuard,hg]
     | _=>simp [eqT,hu] at he
    have hbin:(binOp op xt (mkV t cs) (mkV t ds)).run P w=.ok (.bool (if neg then !deq t u v else deq t u v)) w:=by
     cases d with
     | int k=>exact absurd rfl (hint k)
     | bool =>
      cases t with
      | bool =>
       simp only [RepC] at c1 d1;subst c1;subst d1;subst hop;have heq':(Op.equal xt (mkV .bool [.bool u]) (mkV .bool [.bool v])).run P w=.ok (deq .bool u v) w:=heq;simp only [mkV,isAgg,List.headD_cons,wa2,if_false] at heq';cases neg<;>simp [binOp,mkV,isAgg,heq']
      | _=>simp [eqT,hu] at he
     | array l e =>
      have hm:∀ cs:List Value,mkV t cs=.agg cs.toArray:=fun cs=>by simp [mkV,← hag,aggD]
      rw [hm,hm] at heq ⊢;subst hop;have heq':(Op.equal xt (.agg cs.toArray) (.agg ds.toArray)).run P w=.ok (deq t u v) w:=heq;cases neg<;>simp [binOp,heq']
     | struct fs =>
      have hm:∀ cs:List Value,mkV t cs=.agg cs.toArray:=fun cs=>by simp [mkV,← hag,aggD]
      rw [hm,hm] at heq ⊢;subst hop;have heq':(Op.equal xt (.agg cs.toArray) (.agg ds.toArray)).run P w=.ok (deq t u v) w:=heq;cases neg<;>simp [binOp,heq']
     | _=>simp [eqT,hu] at he
    refine Does.val em.heap (v:=.bool (if neg then !deq t u v else deq t u v)) ?_ rfl (qcs.2 rfl)
    simp [execOp,ho,c2,d2,hgr,hbin]
   ·exact qaa hob
theorem qs5 {d:Nat} {xt e:TypeId} {ad:Option Addr} {n c:Nat} (hu:P.underlying xt=some (.slice e)):(Op.equalIn (d+1) xt (.slice ad n c) (.slice none 0 0)).run P w=.ok ad.isNone w:=by
 cases ad<;>simp [Op.equalIn,run_underlying hu]
theorem qpj {Γ:Cx}:∀ {x:AV} {p:List Prop} {b:Bool} {v:Value},nilF x=some (p,b)→allP p→Ra w Γ x v→∃ ad n c,v=.slice ad n c∧ad.isNone=b
 | .opt b a,p,c,v,h,hp,hr=>by
  simp only [nilF,waz,wa1] at h;obtain ⟨rfl,rfl⟩:=h;simp only [Ra,Rp] at hr
  cases b with
  | true =>
   have:=hr.2.1 rfl;simp only [wa0,and_true] at this;exact ⟨_,_,_,this,rfl⟩
  | false =>
   obtain ⟨ad,n,c,h⟩:=(hr.2.2 rfl).2;simp only [wa0,and_true] at h;exact ⟨_,_,_,h,rfl⟩
 | .gd c x,p,b,v,h,hp,hr=>by
  simp only [nilF] at h;split at h
  ·rename_i q b' hq;simp only [waz,wa1] at h;obtain ⟨rfl,rfl⟩:=h;simp only [Ra,Rp] at hr;obtain ⟨h1,h2⟩:=qa0.1 hp;exact qpj hq h2 (hr.2.1 h1)
  ·cases h
 | .undef,_,_,_,h,_,_=>by simp [nilF] at h
 | .val ..,_,_,_,h,_,_=>by simp [nilF] at h
 | .anyb ..,_,_,_,h,_,_=>by simp [nilF] at h
 | .ref ..,_,_,_,h,_,_=>by simp [nilF] at h
 | .sl ..,_,_,_,h,_,_=>by simp [nilF] at h
 | .vsl ..,_,_,_,h,_,_=>by simp [nilF] at h
 | .mref _,_,_,_,h,_,_=>by simp [nilF] at h
 | .fn ..,_,_,_,h,_,_=>by simp [nilF] at h
 | .tup _,_,_,_,h,_,_=>by simp [nilF] at h
 | .agg _,_,_,_,h,_,_=>by simp [nilF] at h
 | .nil,_,_,_,h,_,_=>by simp [nilF] at h
 | .cons ..,_,_,_,h,_,_=>by simp [nilF] at h
theorem qs7 (em:Emb Γ S a w) (sp:Spec) (base:Nat) {tx:Option Ty} {x:Operand} {x':Od} {op:BinOp} {neg one:Bool} (hx:cOd tx x=some x') (hop:op=if neg then .neq else .eql)
  {o:Oper} {xt yt e:TypeId} (hu:P.underlying xt=some (.slice e)) (ho:o.op=.binOp op xt x (.const (.slice none 0 0)) yt)
  (hob:allP (aeff sp base S.T S.H (.snil neg one x')).ob):Does P Γ S.H w (aeff sp base S.T S.H (.snil neg one x')) ((execOp a.eval o).run P w):=by
 have r1:=qaj em hx;rw [aeff] at hob ⊢
 cases hnf:nilF (ev S.T x') with
 | some pc =>
  obtain ⟨p,c⟩:=pc;rw [hnf] at hob;have main:∀ ob',allP p→Does P Γ S.H w (Ef.when ob' (.val .bool (cond neg (!c) c))) ((execOp a.eval o).run P w):=fun ob' hp=>by
   simp only [Ef.when];obtain ⟨ad,n,k,hv,hc⟩:=qpj hnf hp r1;have heq:(Op.equal xt (.slice ad n k) (.slice none 0 0)).run P w=.ok ad.isNone w:=qs5 (d:=9999) hu;subst hop;refine Does.val em.heap (v:=.bool (if neg then !ad.isNone else ad.isNone)) ?_ rfl ?_
   ·have hc:a.eval (.const (.slice none 0 0))=.slice none 0 0:=rfl;cases neg<;>simp [execOp,ho,hv,hc,eqGuard,binOp,heq]
   ·subst hc;refine qcs.2 ?_;cases neg<;>rfl
  cases one with
  | false=>exact main _ hob
  | true =>
   obtain ⟨h1,h2⟩:=qag.1 (show allP (p++[c=true]) from hob)
   have h2:=allP_one.1 h2;subst h2;have:=main (p++[true=true]) h1;cases neg<;>exact this
 | none =>
 rw [hnf] at hob;simp only at hob ⊢;obtain ⟨p,hob⟩:=qbh hob;have r1:=qah r1 p
 revert hob
 show allP (Ef.ob (match (peel (ev S.T x')).2 with | .val (.slice e) xs=>_ | .vsl _ xs _=>_ | .sl _ _ _ len _=>_ | _=>_))→Does P Γ S.H w (match (peel (ev S.T x')).2 with | .val (.slice e) xs=>_ | .vsl _ xs _=>_ | .sl _ _ _ len _=>_ | _=>_) _
 generalize (peel (ev S.T x')).2=X at r1;intro hob;have key:∀ (ad:Option Addr) (n c:Nat) (Q:Prop),allP (Ef.ob (nilE one neg Q))→a.eval x=.slice ad n c→(ad=none→Q)→Does P Γ S.H w (nilE one neg Q) ((execOp a.eval o).run P w):=by
  intro ad n c Q hob hv hq;have heq:(Op.equal xt (.slice ad n c) (.slice none 0 0)).run P w=.ok ad.isNone w:=qs5 (d:=9999) hu;subst hop;refine Does.val em.heap (v:=.bool (if neg then !ad.isNone else ad.isNone)) ?_ (by cases one<;>rfl) ?_
  ·have hc:a.eval (.const (.slice none 0 0))=.slice none 0 0:=rfl;cases neg<;>simp [execOp,ho,hv,hc,eqGuard,binOp,heq]
  ·cases one with
   | false =>
    simp only [nilE,Ef.ok,Ra,Rp,wa0,and_true];refine ⟨_,rfl,fun h=>hq ?_⟩
    cases neg<;>cases ad<;>simp at h ⊢
   | true =>
    have hq2:¬ Q:=hob _ (List.mem_singleton.2 rfl);refine qcs.2 ?_
    cases ad with
    | none=>exact absurd (hq rfl) hq2
    | some ad=>cases neg<;>rfl
 cases X with
 | val t y =>
  cases t with
  | slice e =>
   obtain ⟨cs,hc,hv⟩:=Ra_val.1 r1;simp only [RepC] at hc;obtain ⟨ad,cap,rfl,h1,h2,h3⟩:=hc;refine key ad _ cap _ hob (by simpa [mkV,isAgg] using hv) (fun h=>?_)
   have:=h2 h;omega
  | _=>exact qaa hob
 | vsl t xs c =>
  have:=r1;simp only [Ra,Rp,wa0,and_true] at this;obtain ⟨ad,hv,h1,h2,h3⟩:=this;exact key ad _ c _ hob hv (fun h=>by have:=h2 h;omega)
 | sl b s i len c =>
  have:=r1;simp only [Ra,Rp,wa0,and_true] at this;obtain ⟨_,ad,cap,hv,h1,h2,h3⟩:=this;refine key ad _ cap _ hob hv (fun h=>?_)
  by_cases hc:cap=0
  ·omega
  ·have:=h2 hc;rw [h] at this;cases this
 | _=>exact qaa hob
end
section
variable {P:Program} {Γ:Cx} {H:List Hs} {w:World} {S:St} {a:Act}
theorem qn9:∀ {l:List AV} {vs:List Value},Fa w Γ l vs→allP (qsp l).1→Fa w Γ (qsp l).2 vs
 | [],[],h,_=>trivial
 | x::l,v::vs,h,hp=>by
  obtain ⟨p1,p2⟩:=qag.1 hp;exact ⟨qah h.1 p1,qn9 h.2 p2⟩
 | [],_::_,h,_=>h.elim
 | _::_,[],h,_=>h.elim
theorem qiw:∀ {x:AV} {v:Value},Ra w Γ x v→allP (qrk x).1→Ra w Γ (qrk x).2 v
 | .gd b x,v,h,hp=>by
  simp only [qrk] at hp ⊢;obtain ⟨h1,h2⟩:=qa0.1 hp;simp only [Ra,Rp] at h;exact qiw (h.2.1 h1) h2
 | .undef,v,h,_ | .val ..,v,h,_ | .opt ..,v,h,_ | .anyb ..,v,h,_ | .ref ..,v,h,_ | .sl ..,v,h,_ | .vsl ..,v,h,_ | .mref _,v,h,_ | .fn ..,v,h,_ | .tup _,v,h,_ | .agg _,v,h,_ | .nil,v,h,_ | .cons ..,v,h,_=>by simpa only [qrk] using h
theorem qcy:∀ {l:List AV} {vs:List Value},Fa w Γ l vs→allP (qgj l).1→Fa w Γ (qgj l).2 vs
 | [],[],h,_=>trivial
 | x::l,v::vs,h,hp=>by
  obtain ⟨p1,p2⟩:=qag.1 hp;exact ⟨qiw h.1 p1,qcy h.2 p2⟩
 | [],_::_,h,_=>h.elim
 | _::_,[],h,_=>h.elim
theorem qdi {f:FuncId} (hc:qbr P f=true) (args:Array Value):(callFunc f args).run P w=.ok (.enter f args) w:=by
 unfold qbr at hc;unfold callFunc;simp only [Sem.run_bind,run_program,wbp]
 cases hf:P.funcs[f]? with
 | none=>rw [hf] at hc;cases hc
 | some fn =>
  rw [hf] at hc;simp only [wa3,Bool.not_eq_true'] at hc;have h2:fn.body.isNone=false:=by cases hb:fn.body<;>simp [hb] at hc ⊢
  simp [hc.1,h2]
theorem Does.call {sp:Spec} (hsp:SpecOk P sp) (em:EmbH Γ H w) {base:Nat} {f:FuncId} {args:List AV} {vs:List Value} (hf:Fa w Γ args vs) (hob:allP (sp f H base args).ob) {e:Ef} (he:e.v=(sp f H base args).v) (hu:e.up=(sp f H base args).up)
  {r:Result Next} (hr:r=.ok (.enter f vs.toArray) w):Does P Γ H w e r:=by
 refine .inr ⟨f,vs.toArray,hr,?_⟩;have:=(hsp.ok f H base args hob).2 Γ w vs em hf;rw [he,hu];exact this
theorem q2r (em:Emb Γ S a w) {sp:Spec} (hsp:SpecOk P sp) (base:Nat) {k:Nat} {tys:List (Option Ty)} {c:Call} {f:FuncId} {l:List Od} (hf:c.callee=.value (.func f)) (hl:cOds tys c.args.toList=some l) (hc:qbr P f=true)
  {o:Oper} (ho:o.op=.call c) (hob:allP (aeff sp base S.T S.H (.call k f l)).ob):Does P Γ S.H w (aeff sp base S.T S.H (.call k f l)) ((execOp a.eval o).run P w):=by
 rw [aeff] at hob ⊢;obtain ⟨p,hob⟩:=qag.1 hob;refine Does.call hsp em.heap (qcy (qc0 em hl) p) hob rfl rfl ?_;have hm:c.args.map a.eval=(c.args.toList.map a.eval).toArray:=by cases c.args;simp
 have hev:a.eval (.func f)=.func (.func f) #[] #[]:=rfl;simp only [execOp,ho,resolve,hf,hev,Deferred.ofValue,Sem.run_bind,Sem.run_pure,wbp,invoke,hm];simpa using qdi hc _
theorem qxv (em:Emb Γ S a w) {sp:Spec} (hsp:SpecOk P sp) (base:Nat) {k:Nat} {tys:List (Option Ty)} {c:Call} {g:Operand} {g':Od} {tg:Option Ty} {l:List Od} (hf:c.callee=.value g) (hg:cOd tg g=some g') (hl:cOds tys c.args.toList=some l)
  {o:Oper} (ho:o.op=.call c) (hob:allP (aeff sp base S.T S.H (.callv k g' l)).ob):Does P Γ S.H w (aeff sp base S.T S.H (.callv k g' l)) ((execOp a.eval o).run P w):=by
 have r1:=qaj em hg;rw [aeff] at hob ⊢;have hob0:=qbh hob;clear hob;obtain ⟨p,hob⟩:=hob0;have r1:=qah r1 p
 revert hob
 dsimp only [p1]
 generalize (peel (ev S.T g')).2=X at r1;intro hob
 cases X with
 | fn f caps =>
  simp only at hob ⊢
  by_cases hl':isL caps=true
  ·rw [if_pos hl'] at hob ⊢;obtain ⟨p2,hob⟩:=qag.1 hob;simp only [Ra,Rp,wa0,and_true] at r1;obtain ⟨us,hv,hr⟩:=r1;have hc:=(hsp.ok _ _ _ _ hob).1;have hm:c.args.map a.eval=(c.args.toList.map a.eval).toArray:=by cases c.args;simp
   unfold fnV at hv;unfold fnF fnA at hob ⊢;unfold fnF at hc
   cases hB:Nat.ble 4096 f with
   | true =>
    rw [hB] at hv;simp only [hB] at hob hc ⊢;refine Does.call hsp em.heap ((qdm hl' hr).app (qcy (qc0 em hl) p2)) hob rfl rfl ?_;simp only [execOp,ho,resolve,hf,hv,Deferred.ofValue,Sem.run_bind,Sem.run_pure,wbp,invoke,hm];simpa using qdi hc _
   | false =>
    rw [hB] at hv;simp only [hB] at hob hc ⊢;refine Does.call hsp em.heap ((qcy (qc0 em hl) p2).app (qdm hl' hr)) hob rfl rfl ?_;simp only [execOp,ho,resolve,hf,hv,Deferred.ofValue,Sem.run_bind,Sem.run_pure,wbp,invoke,hm];simpa using qdi hc _
  ·rw [if_neg hl'] at hob;exact qaa hob
 | _=>exact qaa hob
theorem qua {T:List AV} {m:Bool} {k:Nat} {te:Ty} {l:List Od}:qdc T (bsOp m k te l)=none:=by
 unfold bsOp;split<;>rfl
theorem q06 {T:List AV} {ms:List Nat} {o:Oper} {k:Nat} {ao:AO} (h:cOp P ms o k=some ao) {x:List Prop×FuncId×Nat×List AV} (hc:qdc T ao=some x):∃ c,o.op=.call c:=by
 cases ho:o.op with
 | call c=>exact ⟨c,rfl⟩
 | makeFunc f first caps =>
  exfalso
  cases f with
  | func f =>
   simp only [cOp,ho] at h
   repeat' split at h
   all_goals first
    | (cases h;done)
    | (cases h;simp [qdc] at hc;done)
  | _=>simp [cOp,ho] at h
 | makeMap t r =>
  exfalso
  cases r with
  | some r=>simp [cOp,ho] at h
  | none =>
   simp only [cOp,ho] at h
   repeat' split at h
   all_goals first
    | (cases h;done)
    | (cases h;simp [qdc] at hc;done)
 | _ =>
  exfalso;simp only [cOp,ho] at h
  repeat' split at h
  all_goals first
   | (cases h;done)
   | (cases h;simp [qdc] at hc;done)
   | (simp only [waz] at h;subst h;simp [qdc,ze5] at hc;done)
   | (simp only [waz] at h;subst h;rw [qua] at hc;cases hc;done)
theorem qsd (em:Emb Γ S a w) {ms:List Nat} {o:Oper} {k:Nat} {ao:AO} (h:cOp P ms o k=some ao) {p:List Prop} {f:FuncId} {k':Nat} {args:List AV} (hc:qdc S.T ao=some (p,f,k',args)) (hp:allP p) :
  ∃ vs,Fa w Γ args vs∧(qbr P f=true→(execOp a.eval o).run P w=.ok (.enter f vs.toArray) w):=by
 obtain ⟨c,ho⟩:=q06 h hc;simp only [cOp,ho] at h;have hm:c.args.map a.eval=(c.args.toList.map a.eval).toArray:=by cases c.args;simp
 split at h
 ·rename_i f' hf;split at h
  ·rename_i l hl;split at h
   ·cases h;simp only [qdc,waz,wa1] at hc;obtain ⟨rfl,rfl,rfl,rfl⟩:=hc;refine ⟨_,qcy (qc0 em hl) hp,fun hcall=>?_⟩
    have hev:a.eval (.func f')=.func (.func f') #[] #[]:=rfl;simp only [execOp,ho,resolve,hf,hev,Deferred.ofValue,Sem.run_bind,Sem.run_pure,wbp,invoke,hm];simpa using qdi hcall _
   ·cases h
  ·cases h
 ·rename_i g hf;split at h
  ·rename_i l hl;cases h;have r1:=qaj (ty:=none) (x:=.tmp g) (od:=.t g) em rfl;simp only [qdc] at hc;split at hc
   ·rename_i f' caps hfn;split at hc
    ·rename_i hl';simp only [waz,wa1] at hc;obtain ⟨rfl,rfl,rfl,rfl⟩:=hc;obtain ⟨p1,p2⟩:=qag.1 hp;have r1:=qah r1 p1;rw [hfn] at r1;simp only [Ra,Rp,wa0,and_true] at r1;obtain ⟨us,hv,hr⟩:=r1;unfold fnV at hv;unfold fnF fnA
     cases hB:Nat.ble 4096 f' with
     | true =>
      rw [hB] at hv;refine ⟨_,(qdm hl' hr).app (qcy (qc0 em hl) p2),fun hcall=>?_⟩
      simp only [execOp,ho,resolve,hf,hv,Deferred.ofValue,Sem.run_bind,Sem.run_pure,wbp,invoke,hm];simpa using qdi hcall _
     | false =>
      rw [hB] at hv;refine ⟨_,(qcy (qc0 em hl) p2).app (qdm hl' hr),fun hcall=>?_⟩
      simp only [execOp,ho,resolve,hf,hv,Deferred.ofValue,Sem.run_bind,Sem.run_pure,wbp,invoke,hm];simpa using qdi hcall _
    ·cases hc
   ·cases hc
  ·cases h
 ·exfalso
  repeat' split at h
  all_goals first
   | (cases h;done)
   | (cases h;simp [qdc] at hc;done)
 all_goals (exfalso;(repeat' split at h)<;>first | (cases h;done) | (cases h;simp [qdc] at hc;done))
end
section
variable {P:Program} {Γ:Cx} {H:List Hs} {w:World} {S:St} {a:Act}
theorem qtm:∀ {t:Ty} {x y:Den t},deq t x y=true→x=y
 | .int k,x,y,h=>(beq_iff_eq (α:=Int)).1 h
 | .bool,x,y,h=>(beq_iff_eq (α:=Bool)).1 h
 | .unit,x,y,h=>rfl
 | .prod a b,x,y,h=>by
  simp only [deq,wa3] at h;exact Prod.ext (qtm h.1) (qtm h.2)
 | .slice _,_,_,h=>by cases h
 | .ptr _,_,_,h=>by cases h
 | .optr _,_,_,h=>by cases h
 | .map _ _,_,_,h=>by cases h
 | .oth,_,_,h=>by cases h
theorem qus {I:Nat→Prop}:∀ {t:Ty} {x:Den t} {cs ds:List Value},qcw t=true→RepC w I t x cs→RepC w I t x ds→cs=ds
 | .int k,x,cs,ds,_,h1,h2=>by simp only [RepC] at h1 h2;rw [h1,h2]
 | .bool,x,cs,ds,_,h1,h2=>by simp only [RepC] at h1 h2;rw [h1,h2]
 | .unit,x,cs,ds,_,h1,h2=>by simp only [RepC] at h1 h2;rw [h1,h2]
 | .prod a b,x,cs,ds,he,h1,h2=>by
  simp only [qcw,wa3] at he;simp only [RepC] at h1 h2;obtain ⟨c1,c2,rfl,g1,g2⟩:=h1;obtain ⟨d1,d2,rfl,k1,k2⟩:=h2;rw [qus he.1 g1 k1,qus he.2 g2 k2]
 | .slice _,_,_,_,h,_,_=>by cases h
 | .ptr _,_,_,_,h,_,_=>by cases h
 | .optr _,_,_,_,h,_,_=>by cases h
 | .map _ _,_,_,_,h,_,_=>by cases h
 | .oth,_,_,_,h,_,_=>by cases h
theorem q59 (k:IntKind) (n:Int) (m:Nat):Instr.sameBits m (.int k n) (.int k n)=true:=by cases m<;>simp [Instr.sameBits]
theorem q05 (b:Bool) (m:Nat):Instr.sameBits m (.bool b) (.bool b)=true:=by cases m<;>simp [Instr.sameBits]
theorem qkp {I:Nat→Prop}:∀ {t:Ty} {x:Den t} {cs:List Value},qcw t=true→RepC w I t x cs→∀ c∈cs,∀ m,Instr.sameBits m c c=true
 | .int k,x,cs,_,h=>by simp only [RepC] at h;subst h;intro c hc m;rw [List.mem_singleton] at hc;subst hc;exact q59 k x m
 | .bool,x,cs,_,h=>by simp only [RepC] at h;subst h;intro c hc m;rw [List.mem_singleton] at hc;subst hc;exact q05 x m
 | .unit,x,cs,_,h=>by simp only [RepC] at h;subst h;intro c hc;simp at hc
 | .prod a b,x,cs,he,h=>by
  simp only [qcw,wa3] at he;simp only [RepC] at h;obtain ⟨c1,c2,rfl,g1,g2⟩:=h;intro c hc
  rcases List.mem_append.1 hc with hc | hc
  ·exact qkp he.1 g1 c hc
  ·exact qkp he.2 g2 c hc
 | .slice _,_,_,h,_=>by cases h
 | .ptr _,_,_,h,_=>by cases h
 | .optr _,_,_,h,_=>by cases h
 | .map _ _,_,_,h,_=>by cases h
 | .oth,_,_,h,_=>by cases h
theorem qw3 {f:Value×Value→Bool}:∀ {l:List Value},(∀ x∈l,f (x,x)=true)→(l.zip l).all f=true
 | [],_=>rfl
 | x::l,h=>by
  simp only [List.zip_cons_cons,List.all_cons,wa3];exact ⟨h x (way ..),qw3 fun y hy=>h y (wam _ hy)⟩
theorem q25 {I:Nat→Prop} {t:Ty} {x:Den t} {cs:List Value} (he:qcw t=true) (h:RepC w I t x cs) (m:Nat):Instr.sameBits (m+1) (mkV t cs) (mkV t cs)=true:=by
 have hb:=qkp he h;unfold mkV;split
 ·simp only [Instr.sameBits,beq_self_eq_true,Bool.true_and];exact qw3 fun c hc=>hb c hc m
 ·rename_i hag;have hl:=RepC.length _ _ _ h;rw [RepC.one (by simpa using hag)] at hl
  match cs,hl,hb with
  | [u],_,hb=>exact hb u (by simp) _
theorem qiq {em:Bool} {e:TypeId} {te:Ty} {i:TypeInfo} {d:Nat} {I:Nat→Prop} (hi:P.info? e=some i) (hs:i.size=sz te) (ht:tyS P e=some te)
  (IH:∀ (x:Den te) (cs:List Value),RepC w I te x cs→(Instr.checkKey em d e (mkV te cs)).run P w=.ok () w) {xs:Array Value} :
  ∀ (m k:Nat) (x:Den (arrT m te)),RepC w I (arrT m te) x (xs.toList.drop (k*sz te)) →
   (forIn (List.range' k m) PUnit.unit (fun i r=>do let n ← sizeOf e;let v ← part e xs (i*n);Instr.checkKey em d e v;pure (ForInStep.yield PUnit.unit)):Sem PUnit).run P w=.ok PUnit.unit w
 | 0,k,x,_=>by simp
 | m+1,k,x,hx=>by
  simp only [arrT,RepC] at hx;obtain ⟨x1,x2,e1,hx1,hx2⟩:=hx;have lx:=RepC.length _ _ _ hx1;have tx:(xs.toList.drop (k*sz te)).take (sz te)=x1:=by rw [e1,← lx];simp
  have dx:xs.toList.drop ((k+1)*sz te)=x2:=by rw [Nat.succ_mul,← wbk,e1,← lx];simp
  have px:=qdk (w:=w) ht (cs:=xs) (off:=k*sz te) (by rw [tx];exact hx1)
  rw [tx] at px;have ih:=qiq hi hs ht IH m (k+1) x.2 (by rw [dx];exact hx2)
  have h0:=IH x.1 x1 hx1;have hsz:(sizeOf e).run P w=.ok (sz te) w:=by simp [sizeOf,typeInfo,hi,hs]
  rw [List.range'_succ];simp only [List.forIn_cons,Sem.run_bind,hsz,wbp,px,h0,Sem.run_pure];exact ih
theorem qhe {em:Bool} {d:Nat} {I:Nat→Prop} {rec:TypeId→Ty→Bool}
  (IH:∀ (t:TypeId) (ty:Ty) (x:Den ty) (cs:List Value),rec t ty=true→isAgg ty=(match P.underlying t with | some d=>aggD d | none=>false)→RepC w I ty x cs→(Instr.checkKey em d t (mkV ty cs)).run P w=.ok () w) {xs:Array Value} :
  ∀ (fs:List Field) (off:Nat) (ty:Ty) (x:Den ty),eqFs P rec off fs ty=true→RepC w I ty x (xs.toList.drop off) →
   (forIn fs PUnit.unit (fun f r => if f.name ≠ "_" then (do let v ← part f.type xs f.offset; Instr.checkKey em d f.type v; pure (ForInStep.yield PUnit.unit)) else (do pure PUnit.unit; pure (ForInStep.yield PUnit.unit))) : Sem PUnit).run P w = .ok PUnit.unit w
 | [],off,ty,x,h,hx=>by simp
 | f::fs,off,.prod a b,x,h,hx=>by
  simp only [eqFs] at h;split at h
  ·rename_i te i d0 h1 h2 h3;simp only [wa3,wba,beq_iff_eq,Bool.not_eq_true'] at h;obtain ⟨⟨⟨⟨⟨⟨e1,e2⟩,e3⟩,e4⟩,e5⟩,e6⟩,e7⟩:=h;subst e1;subst e5;simp only [RepC] at hx;obtain ⟨x1,x2,ex,hx1,hx2⟩:=hx;have lx:=RepC.length _ _ _ hx1;have tx:(xs.toList.drop f.offset).take (sz a)=x1:=by rw [ex,← lx];simp
   have dx:xs.toList.drop (f.offset+sz a)=x2:=by rw [← wbk,ex,← lx];simp
   have px:=qdk (w:=w) h1 (cs:=xs) (off:=f.offset) (by rw [tx];exact hx1)
   rw [tx] at px;have h0:=IH f.type a x.1 x1 e2 (by rw [h3];exact e4.symm) hx1
   have ih:=qhe IH fs (f.offset+sz a) b x.2 e7 (by rw [dx];exact hx2)
   have hname : f.name ≠ "_" := by simpa using e6
   simp only [List.forIn_cons,hname,ne_eq,not_false_eq_true,if_true,Sem.run_bind,px,h0,wbp,Sem.run_pure];exact ih
  ·cases h
 | _::_,off,.int _,_,h,_=>by simp [eqFs] at h
 | _::_,off,.bool,_,h,_=>by simp [eqFs] at h
 | _::_,off,.unit,_,h,_=>by simp [eqFs] at h
 | _::_,off,.slice _,_,h,_=>by simp [eqFs] at h
 | _::_,off,.ptr _,_,h,_=>by simp [eqFs] at h
 | _::_,off,.optr _,_,h,_=>by simp [eqFs] at h
 | _::_,off,.map _ _,_,h,_=>by simp [eqFs] at h
 | _::_,off,.oth,_,h,_=>by simp [eqFs] at h
theorem qd2 {em:Bool} {I:Nat→Prop}:∀ (n d:Nat) (t:TypeId) (ty:Ty) (x:Den ty) (cs:List Value),n≤d→eqT P n t ty=true→isAgg ty=(match P.underlying t with | some d=>aggD d | none=>false)→RepC w I ty x cs →
  (Instr.checkKey em d t (mkV ty cs)).run P w=.ok () w
 | 0,_,_,_,_,_,_,h,_,_=>by simp [eqT] at h
 | n+1,0,_,_,_,_,h,_,_,_=>by omega
 | n+1,d+1,t,ty,x,cs,hd,h,hag,hx=>by
  cases hu:P.underlying t with
  | none=>simp [eqT,hu] at h
  | some d0 =>
   simp only [eqT,hu] at h;rw [hu] at hag
   cases d0 with
   | int k =>
    cases ty with
    | int k' =>
     simp only [RepC] at hx;subst hx;simp [Instr.checkKey,run_underlying hu,mkV,isAgg]
    | _=>cases h
   | bool =>
    cases ty with
    | bool =>
     simp only [RepC] at hx;subst hx;simp [Instr.checkKey,run_underlying hu,mkV,isAgg]
    | _=>cases h
   | array l e =>
    simp only at h;split at h
    ·rename_i te ie de h1 h2 h3;simp only [wa3,wba,beq_iff_eq] at h;obtain ⟨⟨⟨⟨e1,e2⟩,e3⟩,e4⟩,e5⟩:=h;subst e1;have hm:∀ cs:List Value,mkV (arrT l te) cs=.agg cs.toArray:=fun cs=>by simp [mkV,hag,aggD]
     have hd':n≤d:=by omega
     have hIH:=fun (x:Den te) (cs:List Value) hx=>qd2 (em:=em) (I:=I) n d e te x cs hd' e2 (by rw [h3];exact e4.symm) hx
     rw [hm,Instr.checkKey];simp only [Sem.run_bind,run_underlying hu,wbp];simp only [Std.Legacy.Range.forIn_eq_forIn_range',Std.Legacy.Range.size,Nat.sub_zero,Nat.add_one_sub_one,Nat.div_one];rw [qiq h2 e3 h1 hIH l 0 x (by simpa using hx)]
     rfl
    ·cases h
   | struct fs =>
    simp only [wa3,Bool.not_eq_true'] at h;have hm:∀ cs:List Value,mkV ty cs=.agg cs.toArray:=fun cs=>by simp [mkV,hag,aggD]
    have hd':n≤d:=by omega
    rw [hm,Instr.checkKey];simp only [Sem.run_bind,run_underlying hu,wbp];rw [← Array.forIn_toList];have key:=qhe (em:=em) (d:=d) (I:=I) (fun t ty x cs hr ha hx=>qd2 (em:=em) (I:=I) n d t ty x cs hd' hr ha hx) (xs:=cs.toArray) fs.toList 0 ty x h.2 (by simpa using hx)
    rw [key];rfl
   | _=>cases h
def zgq (w:World) (I:Nat→Prop) (k v:Ty) (ent:MapEntry) (e:Den k×Den v):Prop:=∃ ck cv,RepC w I k e.1 ck∧ent.key=mkV k ck∧RepC w I v e.2 cv∧ent.val=mkV v cv
def qcb (w:World) (I:Nat→Prop) (k v:Ty):List MapEntry→List (Den k×Den v)→Prop
 | [],[]=>True
 | ent::ents,e::es=>zgq w I k v ent e∧qcb w I k v ents es
 | _,_=>False
def qfv (k v:Ty) (es:List (Den k×Den v)) (x:Den k) (i:Nat):Option (Nat×Den v) :=
 match es with
 | []=>none
 | e::es=>if deq k x e.1 then some (i,e.2) else qfv k v es x (i+1)
theorem qgr {I:Nat→Prop} {kt:TypeId} {k v:Ty} (hk:eqT P 12 kt k=true) (hag:isAgg k=(match P.underlying kt with | some d=>aggD d | none=>false)) {x:Den k} {cx:List Value} (hx:RepC w I k x cx) :
  ∀ {ents:List MapEntry} {es:List (Den k×Den v)} (i:Nat),qcb w I k v ents es →
   ∃ r,(Instr.findAsking kt (mkV k cx) ents i).run P w=.ok r w∧(match qfv k v es x i with
    | none=>r=none
    | some (j,y)=>∃ cv,r=some (j,mkV v cv)∧RepC w I v y cv)
 | [],[],i,_=>⟨none,by simp [Instr.findAsking],rfl⟩
 | ent::ents,e::es,i,h=>by
  obtain ⟨⟨ck,cv,h1,h2,h3,h4⟩,h5⟩:=h;have heq:=qef (w:=w) 12 Op.maxDepth kt k x e.1 cx ck (by decide) hk hag hx h1
  have heq':(Op.equal kt (mkV k cx) ent.key).run P w=.ok (deq k x e.1) w:=by rw [h2];exact heq
  obtain ⟨r,hr,hm⟩:=qgr hk hag hx (i+1) h5;simp only [Instr.findAsking,Sem.run_bind,heq',wbp,qfv]
  cases hd:deq k x e.1 with
  | true=>exact ⟨_,rfl,cv,by rw [h4],h3⟩
  | false=>exact ⟨r,by simpa using hr,by simpa using hm⟩
 | [],_::_,_,h=>h.elim
 | _::_,[],_,h=>h.elim
theorem q6l {d:Nat} {t:TypeId} {k k':IntKind} {m n:Int} (hu:P.underlying t=some (.int k')):(Op.equalIn (d+1) t (.int k m) (.int k n)).run P w=.ok (m == n) w:=by simp [Op.equalIn,run_underlying hu]
theorem q3l {d:Nat} {t:TypeId} {m n:Bool} (hu:P.underlying t=some .bool):(Op.equalIn (d+1) t (.bool m) (.bool n)).run P w=.ok (m == n) w:=by simp [Op.equalIn,run_underlying hu]
theorem qt8 {d:Nat} {t:TypeId} {m n:ByteArray} (hu:P.underlying t=some .string):(Op.equalIn (d+1) t (.string m) (.string n)).run P w=.ok (m == n) w:=by simp [Op.equalIn,run_underlying hu]
theorem qjm {kt:TypeId} {d:TypeDesc} (hu:P.underlying kt=some d) {x y:Value} {b:Bool} (h:Instr.sameNow d x y=some b):(Op.equal kt x y).run P w=.ok b w:=by
 have hd:Op.maxDepth=9999+1:=rfl;rw [Op.equal,hd];unfold Instr.sameNow at h;split at h
 ·split at h
  ·rename_i hkk;subst hkk;cases h;exact q6l hu
  ·cases h
 ·cases h;exact qt8 hu
 ·cases h;exact q3l hu
 ·cases h
theorem qjv {kt:TypeId} {d:TypeDesc} (hu:P.underlying kt=some d) {x:Value}:∀ {ents:List MapEntry} {i:Nat} {r:Option (Nat×Value)},Instr.findNow d x ents i=some r→(Instr.findAsking kt x ents i).run P w=.ok r w
 | [],i,r,h=>by simp only [Instr.findNow,waz] at h;subst h;simp [Instr.findAsking]
 | ent::ents,i,r,h=>by
  simp only [Instr.findNow] at h;split at h
  ·rename_i hs;cases h;simp [Instr.findAsking,qjm (P:=P) (w:=w) hu hs]
  ·rename_i hs;have:=qjv hu h;simp [Instr.findAsking,qjm (P:=P) (w:=w) hu hs,this]
  ·cases h
theorem qjr {I:Nat→Prop} {kt:TypeId} {d:TypeDesc} (hu:P.underlying kt=some d) {k v:Ty} (hk:eqT P 12 kt k=true) (hag:isAgg k=aggD d) {x:Den k} {cx:List Value} (hx:RepC w I k x cx)
  {ents:List MapEntry} {es:List (Den k×Den v)} (h:qcb w I k v ents es) :
   ∃ r,(Instr.findKey kt (mkV k cx) ents).run P w=.ok r w∧(match qfv k v es x 0 with
    | none=>r=none
    | some (j,y)=>∃ cv,r=some (j,mkV v cv)∧RepC w I v y cv):=by
 obtain ⟨r,hr,hm⟩:=qgr (P:=P) hk (by rw [hu];exact hag) hx 0 h
 refine ⟨r,?_,hm⟩;simp only [Instr.findKey,Sem.run_bind,run_underlying hu,wbp]
 cases hf:Instr.findNow d (mkV k cx) ents 0 with
 | none=>exact hr
 | some r' =>
  have:=qjv (w:=w) hu hf;rw [hr] at this;cases this;rfl
theorem qlt {k v:Ty} {x:Den k}:∀ {es:List (Den k×Den v)} {i:Nat},qdb k v es x=(qfv k v es x i).map (·.2)
 | [],_=>rfl
 | e::es,i=>by
  simp only [qdb,qfv];split
  ·rfl
  ·exact qlt
theorem qcb.of_get {I:Nat→Prop} {k v:Ty}:∀ {ents:List MapEntry} {es:List (Den k×Den v)},ents.length=es.length→(∀ (i:Nat) (e:Den k×Den v),es[i]?=some e→∃ ent ck cv,ents[i]?=some ent∧RepC w I k e.1 ck∧ent.key=mkV k ck∧RepC w I v e.2 cv∧ent.val=mkV v cv)→qcb w I k v ents es
 | [],[],_,_=>trivial
 | ent::ents,e::es,hl,h=>by
  refine ⟨?_,qcb.of_get (by simpa using hl) fun i e' he'=>by simpa using h (i+1) e' (by simpa using he')⟩
  obtain ⟨ent',ck,cv,h0,h1⟩:=h 0 e rfl;simp only [wa6,waz] at h0;subst h0;exact ⟨ck,cv,h1⟩
 | [],_::_,hl,_=>by simp at hl
 | _::_,[],hl,_=>by simp at hl
theorem qcb.length {I:Nat→Prop} {k v:Ty}:∀ {ents:List MapEntry} {es:List (Den k×Den v)},qcb w I k v ents es→ents.length=es.length
 | [],[],_=>rfl
 | _::_,_::_,h=>by simp [qcb.length h.2]
 | [],_::_,h=>h.elim
 | _::_,[],h=>h.elim
theorem qcb.get {I:Nat→Prop} {k v:Ty}:∀ {ents:List MapEntry} {es:List (Den k×Den v)},qcb w I k v ents es→∀ (i:Nat) (e:Den k×Den v),es[i]?=some e→∃ ent ck cv,ents[i]?=some ent∧RepC w I k e.1 ck∧ent.key=mkV k ck∧RepC w I v e.2 cv∧ent.val=mkV v cv
 | ent::ents,e::es,h,0,e',he=>by
  simp only [wa6,waz] at he;subst he;obtain ⟨ck,cv,h1⟩:=h.1;exact ⟨ent,ck,cv,rfl,h1⟩
 | ent::ents,e::es,h,i+1,e',he=>by
  simp only [wa4] at he ⊢;exact qcb.get h.2 i e' he
 | [],[],_,_,_,he=>by simp at he
 | [],_::_,h,_,_,_=>h.elim
 | _::_,[],h,_,_,_=>h.elim
theorem qhn {k v:Ty} {x:Den k}:∀ {es:List (Den k×Den v)} {y:Den v},qdb k v es x=some y→∃ e∈es,deq k x e.1=true∧e.2=y
 | [],y,h=>by simp [qdb] at h
 | e::es,y,h=>by
  simp only [qdb] at h;split at h
  ·rename_i hd;cases h;exact ⟨e,way ..,hd,rfl⟩
  ·obtain ⟨f,h1,h2⟩:=qhn h;exact ⟨f,wam _ h1,h2⟩
theorem qkb {k v:Ty} {x:Den k}:∀ {es:List (Den k×Den v)},qdb k v es x=none→∀ e∈es,deq k x e.1=false
 | [],_,e,he=>by cases he
 | f::es,h,e,he=>by
  simp only [qdb] at h;split at h
  ·cases h
  ·rename_i hd
   rcases List.mem_cons.1 he with rfl | he
   ·simpa using hd
   ·exact qkb h e he
theorem qxp {k v:Ty} {es es0:List (Den k×Den v)} (hp:es.Perm es0) (hn:es0.Pairwise fun x y=>x.1≠y.1) {x:Den k}:qdb k v es x=qdb k v es0 x:=by
 have uniq:∀ e∈es0,∀ f∈es0,e.1=f.1→e=f:=by
  intro e he f hf h;obtain ⟨i,hi,rfl⟩:=List.getElem_of_mem he;obtain ⟨j,hj,rfl⟩:=List.getElem_of_mem hf;have hg:=List.pairwise_iff_getElem.1 hn
  rcases Nat.lt_trichotomy i j with q | q | q
  ·exact absurd h (hg i j hi hj q)
  ·subst q;rfl
  ·exact absurd h.symm (hg j i hj hi q)
 cases h1:qdb k v es x with
 | none =>
  cases h2:qdb k v es0 x with
  | none=>rfl
  | some y =>
   obtain ⟨e,he,hd,_⟩:=qhn h2;have:=qkb h1 e (hp.mem_iff.2 he);rw [hd] at this;cases this
 | some y =>
  obtain ⟨e,he,hd,hy⟩:=qhn h1
  cases h2:qdb k v es0 x with
  | none =>
   have:=qkb h2 e (hp.mem_iff.1 he);rw [hd] at this;cases this
  | some z =>
   obtain ⟨f,hf,hd2,hz⟩:=qhn h2;have:=uniq e (hp.mem_iff.1 he) f hf ((qtm hd).symm.trans (qtm hd2));rw [← hy,← hz,this]
theorem qks {I:Nat→Prop} {t kt vt:TypeId} {k v:Ty} {inf:TypeInfo} {z:Value} {d:Den v} (hu:P.underlying t=some (.map kt vt)) (hk:tyS P kt=some k) (hinf:P.info? vt=some inf) (hz:inf.zero=some z)
  (hd:qd7 v z.cells.toList=some d) (heq:eqT P 12 kt k=true) (hagv:isAgg v=aggV z) {r clock:Nat} {ents:Array MapEntry} {es:List (Den k×Den v)} (hr:w.heap[r]?=some (.map ents clock)) (he:qcb w I k v ents.toList es)
  {x:Den k} {cx:List Value} (hx:RepC w I k x cx) (ok:Bool) :
  ∃ cv,(Instr.lookup t (.map (some r)) (mkV k cx) ok).run P w=.ok (if ok then .tuple #[mkV v cv,.bool (qdb k v es x).isSome] else mkV v cv) w∧RepC w I v ((qdb k v es x).getD d) cv:=by
 obtain ⟨ik,dk,hik,huk,hsk,hak⟩:=qbd hk;have hag:isAgg k=(match P.underlying kt with | some d=>aggD d | none=>false):=by rw [huk];exact hak.symm
 have h1:=qd2 (w:=w) (em:=ents.isEmpty) 12 10000 kt k x cx (by decide) heq hag hx
 obtain ⟨res,h2,h3⟩:=qjr (P:=P) huk heq hak.symm hx he;have hzv:mkV v z.cells.toList=z:=by
  unfold mkV;rw [hagv];cases z<;>simp [aggV,Value.cells]
 rw [qlt (i:=0)]
 cases hf:qfv k v es x 0 with
 | none =>
  rw [hf] at h3;subst h3;refine ⟨z.cells.toList,?_,qcx _ _ _ hd⟩;simp [Instr.lookup,run_underlying hu,MapKept.run_getObj_map hr,h1,h2,zeroValue,typeInfo,hinf,hz,hzv]
 | some jy =>
  obtain ⟨j,y⟩:=jy;rw [hf] at h3;obtain ⟨cv,rfl,hcv⟩:=h3;refine ⟨cv,?_,hcv⟩;simp [Instr.lookup,run_underlying hu,MapKept.run_getObj_map hr,h1,h2]
theorem qvb (em:Emb Γ S a w) (sp:Spec) (base:Nat) {x i:Operand} {x' i':Od} {tx ti:Option Ty} (hx:cOd tx x=some x') (hi:cOd ti i=some i') {t kt vt:TypeId} {k v:Ty} {inf:TypeInfo} {z:Value} {d:Den v}
  (hu:P.underlying t=some (.map kt vt)) (hk:tyS P kt=some k) (hinf:P.info? vt=some inf) (hz:inf.zero=some z)
  (hd:qd7 v z.cells.toList=some d) (heq:eqT P 12 kt k=true) (hagv:isAgg v=aggV z) {ok:Bool} {o:Oper} (ho:o.op=.lookup t x i ok)
  (hob:allP (aeff sp base S.T S.H (.lookup k v d x' i' ok)).ob):Does P Γ S.H w (aeff sp base S.T S.H (.lookup k v d x' i' ok)) ((execOp a.eval o).run P w):=by
 have r1:=qaj em hx;have r2:=qaj em hi;rw [aeff] at hob ⊢;have hob0:=qbh hob;clear hob;obtain ⟨p,hob⟩:=hob0;have r2:=qah r2 p
 revert hob
 dsimp only [p1]
 generalize (peel (ev S.T i')).2=Y at r2
 cases hY:asD k Y with
 | none=>exact fun hob=>qaa hob
 | some key =>
  obtain ⟨cx,c1,c2⟩:=qeb hY r2
  by_cases hq:qcw k=true
  ·simp only [hq,if_true];intro hob;have hob0:=qag.1 hob;clear hob;obtain ⟨p2,hob⟩:=hob0;have r1:=qah r1 p2
   revert hob
   generalize (peel (ev S.T x')).2=X at r1
   cases hX:asD (.map k v) X with
   | some es =>
    intro hob;obtain ⟨cs,m1,m2⟩:=qeb hX r1;simp only [RepC] at m1;obtain ⟨r,ents,clock,e1,e2,e3,e4,e5⟩:=m1;subst e1;have hents:qcb w Γ.I k v ents.toList es:=qcb.of_get (by simpa using e4) fun i e he=>by simpa using e5 i e he
    obtain ⟨cv,hrun,hcv⟩:=qks (P:=P) hu hk hinf hz hd heq hagv e3 hents c1 ok;have hxv:a.eval x=.map (some r):=m2;have hex:(execOp a.eval o).run P w=.ok (.value (if ok then .tuple #[mkV v cv,.bool (qdb k v es key).isSome] else mkV v cv)) w:=by
     simp [execOp,ho,c2,hxv,hrun]
    cases ok with
    | false=>exact Does.val em.heap hex rfl (Ra_val.2 ⟨cv,hcv,rfl⟩)
    | true =>
     refine Does.val em.heap hex rfl ?_;simp only [if_true,Ef.ok,Ra,Rp,wa0,and_true];exact ⟨[mkV v cv,.bool _],rfl,_,_,rfl,⟨_,rfl,cv,hcv,rfl⟩,_,_,rfl,⟨_,rfl,Ra_val.1 (qcs.2 rfl)⟩,rfl⟩
   | none =>
    intro hob;simp only at hob ⊢
    cases X with
    | mref b =>
     simp only at hob ⊢;simp only [Ra,Rp,wa0,and_true] at r1
     cases hg:hget S.H b with
     | none=>rw [hg] at hob;exact qaa hob
     | some B =>
      have hB:=em.heap.blk b B (qaw hg);rw [hg] at hob
      cases B with
      | map k' v' es =>
       simp only at hob ⊢
       cases hc:qs8 k' v' k v es with
       | none=>rw [hc] at hob;exact qaa hob
       | some es' =>
        obtain ⟨f1,f2⟩:=qat hc;cases f1;subst f2;simp only [RepB] at hB;obtain ⟨hk0,ents,clock,e3,e4,e5⟩:=hB;have hents:qcb w Γ.I k v ents.toList es':=qcb.of_get (by simpa using e4) fun i e he=>by simpa using e5 i e he
        obtain ⟨cv,hrun,hcv⟩:=qks (P:=P) hu hk hinf hz hd heq hagv e3 hents c1 ok;have hex:(execOp a.eval o).run P w=.ok (.value (if ok then .tuple #[mkV v cv,.bool (qdb k v es' key).isSome] else mkV v cv)) w:=by
         simp [execOp,ho,c2,r1.2,hrun]
        cases ok with
        | false=>exact Does.val em.heap hex rfl (Ra_val.2 ⟨cv,hcv,rfl⟩)
        | true =>
         refine Does.val em.heap hex rfl ?_;simp only [if_true,Ra,Rp,wa0,and_true];exact ⟨[mkV v cv,.bool _],rfl,_,_,rfl,⟨_,rfl,cv,hcv,rfl⟩,_,_,rfl,⟨_,rfl,Ra_val.1 (qcs.2 rfl)⟩,rfl⟩
      | pmap k' v' es =>
       simp only at hob ⊢
       cases hc:qs8 k' v' k v es with
       | none=>rw [hc] at hob;exact qaa hob
       | some es' =>
        obtain ⟨f1,f2⟩:=qat hc;cases f1;subst f2;simp only [RepB] at hB;obtain ⟨es1,hperm,hnd,hk0,ents,clock,e3,e4,e5⟩:=hB;have hents:qcb w Γ.I k v ents.toList es1:=qcb.of_get (by simpa using e4) fun i e he=>by simpa using e5 i e he
        obtain ⟨cv,hrun,hcv⟩:=qks (P:=P) hu hk hinf hz hd heq hagv e3 hents c1 ok;rw [qxp hperm hnd] at hrun hcv;have hex:(execOp a.eval o).run P w=.ok (.value (if ok then .tuple #[mkV v cv,.bool (qdb k v es' key).isSome] else mkV v cv)) w:=by
         simp [execOp,ho,c2,r1.2,hrun]
        cases ok with
        | false=>exact Does.val em.heap hex rfl (Ra_val.2 ⟨cv,hcv,rfl⟩)
        | true =>
         refine Does.val em.heap hex rfl ?_;simp only [if_true,Ra,Rp,wa0,and_true];exact ⟨[mkV v cv,.bool _],rfl,_,_,rfl,⟨_,rfl,cv,hcv,rfl⟩,_,_,rfl,⟨_,rfl,Ra_val.1 (qcs.2 rfl)⟩,rfl⟩
      | _=>exact qaa hob
    | _=>exact qaa hob
  ·simp only [hq,if_false];exact fun hob=>qaa hob
theorem qsy {I:Nat→Prop} {k v:Ty} (hq:qcw k=true) {x:Den k} {cx:List Value} (hx:RepC w I k x cx) {y:Den v} {cy:List Value} (hy:RepC w I v y cy) {nk nv:Value} (hnk:nk=mkV k cx) (hnv:nv=mkV v cy) :
  ∀ {ents:List MapEntry} {es:List (Den k×Den v)} (i:Nat) {j:Nat} {z:Den v},qcb w I k v ents es→qfv k v es x i=some (j,z) →
   i≤j∧(∃ ent,ents[j-i]?=some ent∧ent.key=mkV k cx)∧qcb w I k v (ents.modify (j-i) fun e=>{ e with key:=nk,val:=nv }) (qcm k v es x y)
 | [],[],i,j,z,_,h=>by simp [qfv] at h
 | ent::ents,e::es,i,j,z,he,h=>by
  simp only [qfv] at h;obtain ⟨⟨ck,cv,h1,h2,h3,h4⟩,h5⟩:=he
  cases hd:deq k x e.1 with
  | true =>
   simp only [hd,if_true,waz,wa1] at h;obtain ⟨rfl,_⟩:=h;have hxe:=qtm hd;rw [← hxe] at h1;have:=qus hq h1 hx;subst this;refine ⟨wad _,⟨ent,by simp,h2⟩,?_⟩
   simp only [Nat.sub_self,qcm,hd,if_true];exact ⟨⟨ck,cy,hx,hnk,hy,hnv⟩,h5⟩
  | false =>
   simp only [hd,wa2,if_false] at h;obtain ⟨g1,⟨ent',g2,g3⟩,g4⟩:=qsy hq hx hy hnk hnv (i+1) h5 h;have hji:j-i=(j-(i+1))+1:=by omega
   refine ⟨by omega,⟨ent',by rw [hji];simpa using g2,g3⟩,?_⟩
   simp only [qcm,hd,wa2,if_false];rw [hji];exact ⟨⟨ck,cv,h1,h2,h3,h4⟩,g4⟩
 | [],_::_,_,_,_,he,_=>he.elim
 | _::_,[],_,_,_,he,_=>he.elim
theorem qzz {I:Nat→Prop} {k v:Ty} {x:Den k} {cx:List Value} (hx:RepC w I k x cx) {y:Den v} {cy:List Value} (hy:RepC w I v y cy) {new:MapEntry} (hnk:new.key=mkV k cx) (hnv:new.val=mkV v cy) :
  ∀ {ents:List MapEntry} {es:List (Den k×Den v)} (i:Nat),qcb w I k v ents es→qfv k v es x i=none→qcb w I k v (ents++[new]) (qcm k v es x y)
 | [],[],i,_,_=>⟨⟨cx,cy,hx,hnk,hy,hnv⟩,trivial⟩
 | ent::ents,e::es,i,he,h=>by
  simp only [qfv] at h
  cases hd:deq k x e.1 with
  | true=>simp [hd] at h
  | false =>
   simp only [hd,wa2,if_false] at h;simp only [qcm,hd,wa2,if_false];exact ⟨he.1,qzz hx hy hnk hnv (i+1) he.2 h⟩
 | [],_::_,_,he,_=>he.elim
 | _::_,[],_,he,_=>he.elim
theorem q3d {I:Nat→Prop} {t kt vt:TypeId} {k v:Ty} (hu:P.underlying t=some (.map kt vt)) (hk:tyS P kt=some k) (heq:eqT P 12 kt k=true) (hq:qcw k=true) {r clock:Nat} {ents:Array MapEntry} {es:List (Den k×Den v)}
  (hr:w.heap[r]?=some (.map ents clock)) (he:qcb w I k v ents.toList es) {x:Den k} {cx:List Value} (hx:RepC w I k x cx) {y:Den v} {cy:List Value} (hy:RepC w I v y cy) :
  ∃ ents' clock',(Instr.mapUpdate t (.map (some r)) (mkV k cx) (mkV v cy)).run P w=.ok () { w with heap:=w.heap.setIfInBounds r (.map ents' clock') }∧qcb w I k v ents'.toList (qcm k v es x y):=by
 obtain ⟨ik,dk,hik,huk,hsk,hak⟩:=qbd hk;have hag:isAgg k=(match P.underlying kt with | some d=>aggD d | none=>false):=by rw [huk];exact hak.symm
 have h1:=qd2 (w:=w) (em:=false) 12 10000 kt k x cx (by decide) heq hag hx
 obtain ⟨res,h2,h3⟩:=qjr (P:=P) huk heq hak.symm hx he
 cases hf:qfv k v es x 0 with
 | none =>
  rw [hf] at h3;subst h3;refine ⟨ents.push { key:=mkV k cx,val:=mkV v cy,born:=clock },clock+1,?_,?_⟩
  ·simp [Instr.mapUpdate,run_underlying hu,MapKept.run_getObj_map hr,h1,h2,MapKept.run_setObj_map _ hr]
  ·rw [Array.toList_push];exact qzz hx hy rfl rfl 0 he hf
 | some jz =>
  obtain ⟨j,z⟩:=jz;rw [hf] at h3;obtain ⟨cv,rfl,_⟩:=h3;obtain ⟨g1,⟨ent,g2,g3⟩,g4⟩:=qsy hq hx hy (nk:=mkV k cx) (nv:=mkV v cy) rfl rfl 0 he hf;rw [Nat.sub_zero] at g2 g4;refine ⟨ents.modify j fun e=>{ e with key:=mkV k cx,val:=mkV v cy },clock,?_,?_⟩
  ·have g2':ents[j]?=some ent:=by simpa using g2
   have hb:=q25 hq hx 9999;have hks:(Instr.keyThatStays (mkV k cx) (mkV k cx)).run P w=.ok (mkV k cx) w:=by simp [Instr.keyThatStays,hb]
   simp [Instr.mapUpdate,run_underlying hu,MapKept.run_getObj_map hr,h1,h2,g2',g3,hks,MapKept.run_setObj_map _ hr]
  ·rw [Array.toList_modify];exact g4
theorem qox (em:Emb Γ S a w) (sp:Spec) (base:Nat) {m x y:Operand} {m' x' y':Od} {tm tx ty:Option Ty} (hm:cOd tm m=some m') (hx:cOd tx x=some x') (hy:cOd ty y=some y') {t kt vt:TypeId} {k v:Ty}
  (hu:P.underlying t=some (.map kt vt)) (hk:tyS P kt=some k) (heq:eqT P 12 kt k=true) {o:Oper} (ho:o.op=.mapUpdate t m x y∨o.op=.insert t m x y)
  (hob:allP (aeff sp base S.T S.H (.mapup k v m' x' y')).ob):Does P Γ S.H w (aeff sp base S.T S.H (.mapup k v m' x' y')) ((execOp a.eval o).run P w):=by
 have r0:=qaj em hm;have r1:=qaj em hx;have r2:=qaj em hy;have hexec:∀ w',(Instr.mapUpdate t (a.eval m) (a.eval x) (a.eval y)).run P w=.ok () w'→(execOp a.eval o).run P w=.ok .skip w':=fun w' h=>by
  rcases ho with ho | ho<;>simp [execOp,ho,h]
 rw [aeff] at hob ⊢;have hob0:=qbh hob;clear hob;obtain ⟨p,hob⟩:=hob0;have r0:=qah r0 p
 revert hob
 dsimp only [p1]
 generalize (peel (ev S.T m')).2=X at r0;intro hob
 cases X with
 | mref b =>
  simp only at hob ⊢;obtain ⟨p1,hob⟩:=qag.1 hob;obtain ⟨p2,hob⟩:=qag.1 hob;have r1:=qah r1 p1;have r2:=qah r2 p2
  revert hob
  generalize (peel (ev S.T x')).2=X1 at r1;generalize (peel (ev S.T y')).2=Y1 at r2;intro hob
  cases hX:asD k X1 with
  | none=>rw [hX] at hob;exact qaa hob
  | some xx =>
   cases hY:asD v Y1 with
   | none=>rw [hX,hY] at hob;exact qaa hob
   | some yy =>
    cases hg:hget S.H b with
    | none=>rw [hX,hY,hg] at hob;exact qaa hob
    | some B =>
     rw [hX,hY,hg] at hob;have hb:=qaw hg;have hB:=em.heap.blk b B hb
     cases B with
     | map k' v' es =>
      simp only at hob ⊢
      cases hc:qs8 k' v' k v es with
      | none=>rw [hc] at hob;exact qaa hob
      | some es' =>
       rw [hc] at hob;obtain ⟨f1,f2⟩:=qat hc;cases f1;subst f2;simp only at hob ⊢
       by_cases hq:qcw k=true
       ·rw [if_pos hq];simp only [Ra,Rp,wa0,and_true] at r0;obtain ⟨cx,c1,c2⟩:=qeb hX r1;obtain ⟨cy,d1,d2⟩:=qeb hY r2;have hB':=hB;simp only [RepB] at hB;obtain ⟨hk0,ents,clock,e3,e4,e5⟩:=hB;have hents:qcb w Γ.I k v ents.toList es':=qcb.of_get (by simpa using e4) fun i e he=>by simpa using e5 i e he
        obtain ⟨ents',clock',hrun,hents'⟩:=q3d (P:=P) hu hk heq hq e3 hents c1 d1;have hlt:Γ.ν b<w.heap.size:=em.heap.lt ⟨_,hb⟩ hk0;have hother:∀ n,n≠Γ.ν b→({ w with heap:=w.heap.setIfInBounds (Γ.ν b) (.map ents' clock') }:World).heap[n]?=w.heap[n]?:=fun n hn=>Array.getElem?_setIfInBounds_ne (Ne.symm hn)
        have hI:∀ n,Γ.I n→({ w with heap:=w.heap.setIfInBounds (Γ.ν b) (.map ents' clock') }:World).heap[n]?=w.heap[n]?:=fun n hn=>hother n fun e=>em.heap.imm b ⟨_,hb⟩ hk0 (e▸hn)
        have hnew:RepB { w with heap:=w.heap.setIfInBounds (Γ.ν b) (.map ents' clock') } Γ b (.map k v (qcm k v es' xx yy)):=by
         simp only [RepB];refine ⟨hk0,ents',clock',?_,by have:=hents'.length;simpa using this,fun i e he=>?_⟩
         ·exact Array.getElem?_setIfInBounds_self_of_lt hlt
         ·obtain ⟨ent,ck,cv,q1,q2,q3,q4,q5⟩:=hents'.get i e he;exact ⟨ent,ck,cv,by simpa using q1,RepC.mono (fun _ h=>h) hI k _ _ q2,q3,RepC.mono (fun _ h=>h) hI v _ _ q4,q5⟩
        refine Does.skip (hexec _ (by rw [r0.2,c2,d2];exact hrun)) rfl (em.heap.write hb hk0 hother (by simp) rfl rfl hnew) qcg
       ·rw [if_neg hq] at hob;exact qaa hob
     | _=>exact qaa hob
 | _=>exact qaa hob
end
section
variable {P:Program} {Γ:Cx} {H:List Hs} {w:World} {S:St} {a:Act}
theorem qwr (em:Emb Γ S a w) {sp:Spec} (hsp:SpecOk P sp) (base:Nat) {ms:List Nat} {o:Oper} {k:Nat} {ao:AO} (h:cOp P ms o k=some ao)
  (hob:allP (aeff sp base S.T S.H ao).ob):Does P Γ S.H w (aeff sp base S.T S.H ao) ((execOp a.eval o).run P w):=by
 cases ho:o.op with
 | move x =>
  simp only [cOp,ho] at h;split at h
  ·rename_i x' hx;cases h;rw [aeff];exact qy8 em hx (by simp [execOp,ho])
  ·cases h
 | assign x =>
  simp only [cOp,ho] at h;split at h
  ·rename_i x' hx;cases h;rw [aeff];exact qy8 em hx (by simp [execOp,ho])
  ·cases h
 | pick c x y =>
  simp only [cOp,ho] at h;split at h
  ·rename_i h1 h2 h3;cases h;exact qy5 em sp base h1 h2 h3 ho hob
  ·cases h
 | binOp op xt x y yt =>
  simp only [cOp,ho] at h;split at h
  ·rename_i h1 h2 h3;split at h
   ·rename_i b hb;cases h;exact q4g em sp base h1 h2 hb ho hob
   ·cases h
  ·rename_i x' y' d h3 h1 h2 h4;split at h
   ·rename_i ty hty;split at h
    ·rename_i hh;simp only [wa3,Bool.not_eq_true'] at hh;split at h
     ·cases h;exact qww (neg:=false) em sp base h1 h2 rfl h4 (fun k hk=>h3 k hk) hty hh.1 hh.2 ho hob
     ·cases h;exact qww (neg:=true) em sp base h1 h2 rfl h4 (fun k hk=>h3 k hk) hty hh.1 hh.2 ho hob
     ·cases h
    ·split at h
     ·rename_i e hue;split at h
      ·cases h;exact qs7 (neg:=false) em sp base h1 rfl hue ho hob
      ·cases h;exact qs7 (neg:=true) em sp base h1 rfl hue ho hob
      ·cases h
     ·cases h
   ·cases h
  ·cases h
 | unOp op t x =>
  simp only [cOp,ho] at h;split at h
  ·rename_i h1;cases h;exact q48 em sp base h1 ho hob
  ·rename_i h1;cases h;exact q41 em sp base h1 ho hob
  ·cases h
 | build t ps =>
  simp only [cOp,ho] at h;split at h
  ·rename_i ty i fs h1 h2 h3;split at h
   ·rename_i z pl h4 h5;split at h
    ·rename_i l h6;split at h
     ·rename_i hh;cases h;exact qu1 em sp base h2 h3 h4 h5 h6 hh.1 hh.2.1 hh.2.2 ho hob
     ·cases h
    ·cases h
   ·cases h
  ·rename_i ty i n e h1 h2 h3;split at h
   ·rename_i z te h4 h5;split at h
    ·rename_i l h6;split at h
     ·rename_i hh;cases h;exact qug em sp base h2 h3 h4 h5 h6 hh.1 hh.2.1 hh.2.2 ho hob
     ·cases h
    ·cases h
   ·cases h
  ·cases h
 | load t x =>
  simp only [cOp,ho] at h;split at h
  ·rename_i ty a' h1 h2
   cases hm:q7m ms (o.dst.getD 0) ty with
   | none=>rw [hm] at h;cases h;exact qzn em sp base h2 h1 ho hob
   | some ft =>
    obtain ⟨f,te⟩:=ft;rw [hm] at h;cases h;have hty:ty=.slice te:=by
     unfold q7m at hm;split at hm
     ·split at hm
      ·cases hm;rfl
      ·cases hm
     ·cases hm
    subst hty;exact qyo em sp base k f h2 h1 ho hob
  ·cases h
 | store t x y =>
  simp only [cOp,ho] at h;split at h
  ·rename_i h1 h2 h3;cases h;exact qx7 em sp base h2 h3 h1 ho hob
  ·cases h
 | alloc e =>
  simp only [cOp,ho] at h;split at h
  ·rename_i h1 h2;split at h
   ·rename_i z hz;split at h
    ·rename_i hh;split at h
     ·rename_i B hB;cases h;exact qyw em sp base k h2 hz hh.1 hh.2 hB ho hob
     ·cases h
    ·cases h
   ·cases h
  ·cases h
 | box e x =>
  simp only [cOp,ho] at h;split at h
  ·rename_i h1 h2;split at h
   ·cases h;exact qz1 em sp base k h2 ho hob
   ·cases h;exact q6d em sp base k h2 ho hob
  ·cases h
 | nilCheck x =>
  simp only [cOp,ho] at h;split at h
  ·rename_i h1;cases h;exact qzu em sp base h1 ho hob
  ·cases h
 | fieldAddr s x f =>
  simp only [cOp,ho] at h;split at h
  ·rename_i fs x' h1 h2;split at h
   ·rename_i fl h3;split at h
    ·rename_i te h4;split at h
     ·rename_i h5;obtain ⟨i,d,hi,_,hs,_⟩:=qbd h4;have hx:∀ b q,a.eval x=.pointer (some ⟨b,q,none⟩)→(execOp a.eval o).run P w=.ok (.value (.pointer (some ⟨b,q+fl.offset,none⟩))) w:=fun b q he=>by
       simp [execOp,ho,he,Instr.fieldAt,run_underlying h1,h3,Instr.sureAddr,qol hi (show 0<i.size by omega)]
      split at h
      ·cases h;exact qza em sp base h2 hx hob
      ·cases h;exact qw7 em sp base h2 hx hob
     ·cases h
    ·cases h
   ·cases h
  ·cases h
 | field s x f =>
  simp only [cOp,ho] at h;split at h
  ·rename_i fs x' h1 h2;split at h
   ·rename_i fl h3;split at h
    ·rename_i te h4;cases h;refine qss em sp base h2 h4 (fun cs he=>?_) hob
     simp [execOp,ho,he,Instr.field,run_underlying h1,h3,Go.asAgg]
    ·cases h
   ·cases h
  ·cases h
 | indexAddr t x i =>
  simp only [cOp,ho] at h;split at h
  ·rename_i e x' i' h1 h2 h3;split at h
   ·rename_i te h4;cases h;exact q5x em sp base h2 h3 h1 h4 ho hob
   ·cases h
  ·rename_i n e x' i' h1 h2 h3;split at h
   ·rename_i te h4;split at h
    ·rename_i c hc;split at h
     ·rename_i hr;cases h;obtain ⟨inf,d,hi,_,hs,_⟩:=qbd h4;obtain ⟨kk,hk⟩:=qil (a:=a) hc;refine qw7 em sp base h2 (fun b q he=>?_) hob
      have:=qf6 (P:=P) (w:=w) h1 hi (b:=b) (off:=q) (k:=kk) hr;simp [execOp,ho,he,hk,this,hs]
     ·cases h
    ·cases h;exact q36 em sp base h2 h3 h1 h4 ho hob
   ·cases h
  ·cases h
 | index t x i =>
  simp only [cOp,ho] at h;split at h
  ·rename_i n e x' i' h1 h2 h3;split at h
   ·rename_i te h4;split at h
    ·rename_i c hc;split at h
     ·rename_i hr;cases h;obtain ⟨inf,d,hi,_,hs,_⟩:=qbd h4;obtain ⟨kk,hk⟩:=qil (a:=a) hc;refine qss em sp base h2 h4 (fun cs he=>?_) hob
      simp [execOp,ho,he,hk,Instr.index,asIntOf,run_underlying h1,hr.1,hr.2,sizeOf,typeInfo,hi,hs]
     ·cases h
    ·cases h;exact q3x em sp base h2 h3 h1 h4 ho hob
   ·cases h
  ·cases h
 | slice t x lo hi mx =>
  simp only [cOp,ho] at h;split at h
  ·rename_i h1 h2 h3 h4 h5;split at h
   ·rename_i te h6;split at h
    ·split at h
     ·cases h;exact q0q em sp base h2 h3 h4 h5 h1 h6 ho hob
     ·cases h
    ·cases h;exact qvq em sp base h2 h3 h4 h5 h1 h6 ho hob
   ·cases h
  ·rename_i n e x' lo' hi' h1 h2 h3 h4 h5;split at h
   ·rename_i te h6;cases h;have hm:mx=none:=by
     cases mx with
     | none=>rfl
     | some m=>simp only [cOpt] at h5;split at h5<;>cases h5
    subst hm;exact q4r em sp base h2 h3 h4 h1 h6 ho hob
   ·cases h
  ·cases h
 | extract x i =>
  simp only [cOp,ho] at h;split at h
  ·rename_i h1;cases h;exact q43 em sp base h1 ho hob
  ·cases h
 | call c =>
  simp only [cOp,ho] at h;split at h
  ·rename_i f hf;split at h
   ·rename_i l hl;split at h
    ·rename_i hc;cases h;exact q2r em hsp base hf hl hc ho hob
    ·cases h
   ·cases h
  ·rename_i g hg;split at h
   ·rename_i l hl;cases h;exact qxv em hsp base (g:=.tmp g) (tg:=none) hg rfl hl ho hob
   ·cases h
  ·rename_i hb;split at h
   ·rename_i x t hx ht;split at h
    ·rename_i e x' h1 h2;cases h;have hx':c.args=#[x]:=Array.toList_inj.1 (by simpa using hx)
     have ht':c.argTypes=#[t]:=Array.toList_inj.1 (by simpa using ht)
     refine q5v em sp base h2 h1 ?_ hob;simp [execOp,ho,resolve,hb,invoke,builtin,hx',ht']
    ·rename_i n e h1;cases h;have hx':c.args=#[x]:=Array.toList_inj.1 (by simpa using hx)
     have ht':c.argTypes=#[t]:=Array.toList_inj.1 (by simpa using ht)
     rw [aeff];refine Does.val em.heap (v:=.int .i64 n) ?_ rfl (qcq.2 rfl);simp [execOp,ho,resolve,hb,invoke,builtin,hx',ht',Builtin.len_,run_underlying h1,goInt]
    ·cases h
   ·cases h
  ·rename_i hb;split at h
   ·rename_i x xs hx;cases h;refine q02 em sp base hx ?_ hob;simp only [execOp,ho,resolve,hb,invoke,builtin,Builtin.min_,Sem.run_bind,Sem.run_pure,wbp,Array.toList_map]
    cases hcl:c.args.toList with
    | nil=>rw [hcl] at hx;simp [cOds] at hx
    | cons v r=>simp
   ·cases h
  ·rename_i hb;split at h
   ·rename_i x xs hx;cases h;refine q02 em sp base hx ?_ hob;simp only [execOp,ho,resolve,hb,invoke,builtin,Builtin.max_,Sem.run_bind,Sem.run_pure,wbp,Array.toList_map]
    cases hcl:c.args.toList with
    | nil=>rw [hcl] at hx;simp [cOds] at hx
    | cons v r=>simp
   ·cases h
  ·rename_i hb;split at h
   ·rename_i x y t u h1 h2;split at h
    ·rename_i e e' x' y' h3 h4 h5 h6;split at h
     ·rename_i te i h7 h8;split at h
      ·rename_i z hz;split at h
       ·rename_i hh;cases h;obtain ⟨q1,q2,q3,q4⟩:=hh;subst q4;refine quy em sp base k h5 h6 h3 h7 h8 hz q1 q2 ?_ hob;have hx':c.args=#[x,y]:=Array.toList_inj.1 (by simpa using h1)
        have ht':c.argTypes=#[t,t]:=Array.toList_inj.1 (by simpa using h2)
        simp [execOp,ho,resolve,hb,invoke,builtin,hx',ht']
       ·cases h
      ·cases h
     ·cases h
    ·cases h
   ·cases h
  ·rename_i hb;split at h
   ·rename_i x y t u h1 h2;split at h
    ·rename_i e e' x' y' h3 h4 h5 h6;split at h
     ·rename_i te h7;split at h
      ·rename_i hh;cases h;refine q50 em sp base (u:=u) h5 h6 h3 h7 ?_ hob;have hx':c.args=#[x,y]:=Array.toList_inj.1 (by simpa using h1)
       have ht':c.argTypes=#[t,u]:=Array.toList_inj.1 (by simpa using h2)
       simp [execOp,ho,resolve,hb,invoke,builtin,hx',ht']
      ·cases h
     ·cases h
    ·cases h
   ·cases h
  ·cases h
 | convert s d x =>
  simp only [cOp,ho] at h;split at h
  ·rename_i h1 h2 h3;cases h;exact q0i em sp base h3 h1 h2 ho hob
  ·cases h
 | makeFunc f first caps =>
  cases f with
  | func f =>
   simp only [cOp,ho] at h;split at h
   ·rename_i hf;split at h
    ·rename_i l hl;split at h
     ·cases h;exact q1z em sp base hf.1 hf.2 hl ho hob
     ·cases h
    ·cases h
   ·split at h
    ·rename_i hf;split at h
     ·rename_i l hl;split at h
      ·cases h;exact qyg em sp base hf.1 hf.2 hl ho hob
      ·cases h
     ·cases h
    ·cases h
  | _=>simp [cOp,ho] at h
 | buildSlice t n ps =>
  simp only [cOp,ho] at h;split at h
  ·rename_i e h1;split at h
   ·rename_i te i h2 h3;split at h
    ·rename_i z l h4 h5;split at h
     ·rename_i hh;split at h
      ·cases h;exact qtr em sp base k h1 h2 h3 h4 h5 hh.1 hh.2.1 hh.2.2.1 ho hob
      ·cases h;exact q2f em sp base k h1 h2 h3 h4 h5 hh.1 hh.2.1 hh.2.2.1 ho hob
     ·cases h
    ·cases h
   ·cases h
  ·cases h
 | lookup t x i ok =>
  simp only [cOp,ho] at h;split at h
  ·rename_i kt vt x' h1 h2;split at h
   ·rename_i k v inf h3 h4 h5;split at h
    ·rename_i i' z h6 h7;split at h
     ·rename_i d h8;split at h
      ·rename_i hh;cases h;exact qvb em sp base h2 h6 h1 h3 h5 h7 h8 hh.1 hh.2 ho hob
      ·cases h
     ·cases h
    ·cases h
   ·cases h
  ·cases h
 | mapUpdate t m x v =>
  simp only [cOp,ho] at h;split at h
  ·rename_i kt vt m' h1 h2;split at h
   ·rename_i k vv h3 h4;split at h
    ·rename_i x' v' h5 h6;split at h
     ·rename_i hh;cases h;exact qox em sp base h2 h5 h6 h1 h3 hh (.inl ho) hob
     ·cases h
    ·cases h
   ·cases h
  ·cases h
 | insert t m x v =>
  simp only [cOp,ho] at h;split at h
  ·rename_i kt vt m' h1 h2;split at h
   ·rename_i k vv h3 h4;split at h
    ·rename_i x' v' h5 h6;split at h
     ·rename_i hh;cases h;exact qox em sp base h2 h5 h6 h1 h3 hh (.inr ho) hob
     ·cases h
    ·cases h
   ·cases h
  ·cases h
 | makeMap t r =>
  cases r with
  | some r=>simp [cOp,ho] at h
  | none =>
   simp only [cOp,ho] at h;split at h
   ·split at h
    ·cases h;exact qym em sp base k ho hob
    ·cases h
   ·cases h
 | makeSlice t n c =>
  simp only [cOp,ho] at h;split at h
  ·rename_i h1 h2 h3;split at h
   ·rename_i te i h4 h5;split at h
    ·rename_i z hz;split at h
     ·rename_i hh;split at h
      ·rename_i x hx
       cases hms:ms.contains (o.dst.getD 0+1000) with
       | true =>
        rw [hms] at h;simp only at h
        cases te with
        | slice te'=>cases h;exact qt3 em sp base k h1 h4 h5 hz hx hh.1 hh.2.1 hh.2.2 h2 h3 ho hob
        | _=>cases h
       | false =>
       rw [hms] at h;simp only at h;split at h
       ·cases h;exact qr5 em sp base k h1 h4 h5 hz hx hh.1 hh.2.1 hh.2.2 h2 h3 ho hob
       ·cases h;exact qs9 em sp base k h1 h4 h5 hz hx hh.1 hh.2.1 hh.2.2 h2 h3 ho hob
      ·cases h
     ·cases h
    ·cases h
   ·cases h
  ·cases h
 | panic x=>simp only [cOp,ho] at h;cases h;exact qaa hob
 | makeInterface t x=>simp only [cOp,ho] at h;cases h;exact qaa hob
 | _=>simp [cOp,ho] at h
end
end Go.Ab
