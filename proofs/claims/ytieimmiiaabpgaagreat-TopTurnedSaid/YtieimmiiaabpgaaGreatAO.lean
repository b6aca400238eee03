/- Slices of slices: where rows lie,and steps that move them. -/
import Derived.Test.YtieimmiiaabpgaaGreatAP
set_option linter.unusedVariables false
set_option linter.unusedSimpArgs false
namespace Go.Ab
section
variable {P:Program} {Γ Γ':Cx} {H H':List Hs} {w w':World} {S:St} {a:Act}
def PlOk (H:List Hs):Nat×Option Nat→Prop
 | (b,none)=>Live H b
 | (b,some _)=>Nest H b
def plAt (Γ:Cx):Nat×Option Nat→Nat×Nat
 | (b,none)=>(Γ.ν b,Γ.κ b)
 | (b,some i)=>Γ.R b i
theorem EmbH.uniq (e:EmbH Γ H w) {p q:Nat×Option Nat} (hp:PlOk H p) (hq:PlOk H q) (h1:(plAt Γ p).2≠0) (h2:(plAt Γ q).2≠0) (h:(plAt Γ p).1=(plAt Γ q).1):p=q:=by
 obtain ⟨b,o⟩:=p;obtain ⟨b',o'⟩:=q
 cases o with
 | none=>cases o' with
  | none=>rw [e.inj b b' hp hq h1 h2 h]
  | some j=>exact absurd h (e.rows.main b' b _ hq hp h1 ⟨j,h2,rfl⟩)
 | some i=>cases o' with
  | none=>exact absurd h.symm (e.rows.main b b' _ hp hq h2 ⟨i,h1,rfl⟩)
  | some j =>
   have hb:=e.rows.dis b b' (Γ.R b i).1 hp hq ⟨i,h1,rfl⟩ ⟨j,h2,h.symm⟩;subst hb;rw [e.rows.one b i j hp h1 h2 h]
theorem EmbH.pl_wr (e:EmbH Γ H w) {p:Nat×Option Nat} (hp:PlOk H p) (h1:(plAt Γ p).2≠0):Wr Γ H (plAt Γ p).1:=by
 obtain ⟨b,o⟩:=p
 cases o with
 | none=>exact .inl ⟨b,hp,h1,rfl⟩
 | some i=>exact .inr ⟨b,hp,i,h1,rfl⟩
theorem EmbH.wr_imm (e:EmbH Γ H w) {n:Nat} (h:Wr Γ H n):¬ Γ.I n∧n<w.heap.size:=by
 rcases h with ⟨b,hb,hk,rfl⟩ | ⟨b,hb,hn⟩
 ·exact ⟨e.imm b hb hk,e.lt hb hk⟩
 ·exact ⟨e.rows.imm b n hb hn,e.rows.lt b n hb hn⟩
theorem EmbH.stepP (e:EmbH Γ H w) (X:Nat→Prop) (hI:Γ'.I=Γ.I)
  (hAl:∀ b,Γ.A b→Γ'.A b∧Γ'.ν b=Γ.ν b∧Γ'.κ b=Γ.κ b)
  (hA':∀ b,Γ'.A b↔∃ h,H'[b]?=some h∧h≠.free)
  (hX:∀ n,n<w.heap.size→¬ X n→w'.heap[n]?=w.heap[n]?) (hXw:∀ n,X n→Wr Γ H n∨w.heap.size≤n)
  (σ:Nat×Option Nat→Option (Nat×Option Nat))
  (hσ:∀ p,PlOk H' p→(plAt Γ' p).2≠0→(∃ q,σ p=some q∧PlOk H q∧(plAt Γ q).2≠0∧(plAt Γ q).1=(plAt Γ' p).1)∨(σ p=none∧w.heap.size≤(plAt Γ' p).1∧(plAt Γ' p).1<w'.heap.size))
  (hσi:∀ p p',PlOk H' p→PlOk H' p'→(plAt Γ' p).2≠0→(plAt Γ' p').2≠0→σ p=σ p'→p=p')
  (hblk:∀ b B,H'[b]?=some (.live B)→RepB w' Γ' b B∨(H[b]?=some (.live B)∧(Γ.κ b≠0→¬ X (Γ.ν b))∧(Nest H b→Γ'.R b=Γ.R b∧∀ n,Γ.O b n→¬ X n)))
  (hvw:∀ m b i f,H'[m]?=some (.view b i f)→Γ'.A b∧VwOk Γ' H' m b i)
  (hs:w.heap.size≤w'.heap.size) (ho:w'.os=w.os) (hout:w'.output=w.output) :
  EmbH Γ' H' w'∧Ext Γ H w Γ' H' w':=by
 have hwr:∀ p,PlOk H' p→(plAt Γ' p).2≠0→Wr Γ H (plAt Γ' p).1∨w.heap.size≤(plAt Γ' p).1:=fun p hp h0=>by
  rcases hσ p hp h0 with ⟨q,_,h2,h3,h4⟩ | ⟨_,h,_⟩
  ·exact .inl (h4▸e.pl_wr h2 h3)
  ·exact .inr h
 have hlt:∀ p,PlOk H' p→(plAt Γ' p).2≠0→(plAt Γ' p).1<w'.heap.size:=fun p hp h0=>by
  rcases hσ p hp h0 with ⟨q,_,h2,h3,h4⟩ | ⟨_,_,h⟩
  ·have:=(e.wr_imm (e.pl_wr h2 h3)).2;omega
  ·exact h
 have him:∀ p,PlOk H' p→(plAt Γ' p).2≠0→¬ Γ'.I (plAt Γ' p).1:=fun p hp h0 hi=>by
  rw [hI] at hi
  rcases hwr p hp h0 with h | h
  ·exact (e.wr_imm h).1 hi
  ·have:=e.old _ hi;omega
 have hun:∀ p p',PlOk H' p→PlOk H' p'→(plAt Γ' p).2≠0→(plAt Γ' p').2≠0→(plAt Γ' p).1=(plAt Γ' p').1→p=p':=fun p p' hp hp' h0 h0' heq=>by
  refine hσi p p' hp hp' h0 h0' ?_
  rcases hσ p hp h0 with ⟨q,h1,h2,h3,h4⟩ | ⟨h1,h2,_⟩<;>rcases hσ p' hp' h0' with ⟨q',g1,g2,g3,g4⟩ | ⟨g1,g2,_⟩
  ·rw [h1,g1,e.uniq h2 g2 h3 g3 (by rw [h4,g4];exact heq)]
  ·have:=(e.wr_imm (e.pl_wr h2 h3)).2;omega
  ·have:=(e.wr_imm (e.pl_wr g2 g3)).2;omega
  ·rw [h1,g1]
 refine e.step X hI hAl hA' hX hXw (fun b B hB=>?_) (fun b b' hb hb' hk hk' he=>?_) ⟨fun b b' n hb hb' ⟨i,h1,h2⟩ ⟨j,g1,g2⟩=>?_,fun b b' n hb hb' hk ⟨i,h1,h2⟩ he=>?_,fun b n hb ⟨i,h1,h2⟩=>?_,fun b n hb ⟨i,h1,h2⟩=>?_,fun b i i' hb h1 h2 h3=>?_⟩ (fun b n hb ⟨i,h1,h2⟩=>?_) hvw hs ho hout
 ·rcases hblk b B hB with h | h
  ·exact .inl ⟨h,fun hk=>hwr (b,none) ⟨B,hB⟩ hk⟩
  ·exact .inr h
 ·have:=hun (b,none) (b',none) hb hb' hk hk' he;exact congrArg Prod.fst this
 ·have:=hun (b,some i) (b',some j) hb hb' h1 g1 (h2.trans g2.symm);exact congrArg Prod.fst this
 ·have:=hun (b,some i) (b',none) hb hb' h1 hk (h2.trans he.symm);cases this
 ·exact h2▸him (b,some i) hb h1
 ·exact h2▸hlt (b,some i) hb h1
 ·have:=hun (b,some i) (b,some i') hb hb h1 h2 h3;cases this;rfl
 ·exact h2▸hwr (b,some i) hb h1
theorem qms {b:Nat} {B:Blk} (h:hget H b=some B):hres H b=some B:=qzi (qaw h)
theorem EmbH.view_at (e:EmbH Γ H w) {m n p:Nat} {f:Bool} (hm:H[m]?=some (.view n p f)) {t:Ty} {rows:List (List (Den t))} {ho:Option (Nat×Nat)} (hn:H[n]?=some (.live (.nest t rows ho))) (hp:p<rows.length) :
  Γ.A m∧Γ.κ m=(Γ.R n p).2∧(Γ.κ m≠0→Γ.ν m=(Γ.R n p).1)∧RepB w Γ m (.arr t (rows.getD p []) true):=by
 obtain ⟨h1,_,h2⟩:=e.vwA hm;obtain ⟨g1,g2⟩:=h2 t rows ho hn hp;exact ⟨h1,g1,g2,((e.blk n _ hn).nest_row hp).rep g1 g2⟩
theorem qfh.of_rep {m:Nat} {p:Nat×Nat} {t:Ty} {r:List (Den t)} (h:RepB w Γ m (.arr t r true)) (h1:Γ.κ m=p.2) (h2:Γ.κ m≠0→Γ.ν m=p.1):qfh w Γ.I p t r:=by
 simp only [RepB] at h;obtain ⟨g1,_,g2⟩:=h;refine ⟨by rw [← h1];exact g1,fun hk=>?_⟩
 have hk':Γ.κ m≠0:=by rw [h1];exact hk
 rw [← h2 hk',← h1];exact g2 hk'
theorem qfh.mono {I I':Nat→Prop} {p:Nat×Nat} {t:Ty} {r:List (Den t)} (h:qfh w I p t r) (hI:∀ b,I b→I' b) (hw:∀ b,I b→w'.heap[b]?=w.heap[b]?) (hp:p.2≠0→w'.heap[p.1]?=w.heap[p.1]?):qfh w' I' p t r:=by
 obtain ⟨h1,h2⟩:=h;refine ⟨h1,fun hk=>?_⟩
 obtain ⟨c,el,g1,g2,g3⟩:=h2 hk;refine ⟨c,el,(hp hk).trans g1,g2,fun i x hx=>?_⟩
 obtain ⟨cs,k1,k2⟩:=g3 i x hx;exact ⟨cs,RepC.mono hI hw t _ _ k1,k2⟩
theorem qfh.take {I:Nat→Prop} {p:Nat×Nat} {t:Ty} {r:List (Den t)} (h:qfh w I p t r) (n:Nat):qfh w I p t (r.take n):=by
 obtain ⟨h1,h2⟩:=h;refine ⟨by rw [wan];omega,fun hk=>?_⟩
 obtain ⟨c,el,g1,g2,g3⟩:=h2 hk;refine ⟨c,el,g1,g2,fun i x hx=>?_⟩
 rw [wat] at hx;split at hx
 ·exact g3 i x hx
 ·cases hx
theorem qd1 {α:Type} {l:List α} {i j:Nat} {x d:α} (hi:i<l.length):(l.set i x).getD j d=if i=j then x else l.getD j d:=by
 rw [waa,waw];split
 ·rename_i h;subst h;simp [hi]
 ·rw [waa]
theorem qv2 {α:Type} {l:List α} {i:Nat} {x d:α} (h:l[i]?=some x):l.getD i d=x:=by
 rw [waa,h];rfl
theorem RepB.nest_of {b:Nat} {t:Ty} {rows:List (List (Den t))} {ho:Option (Nat×Nat)} {c:Array Value} {el:TypeId} (hl:rows.length≤Γ.κ b) (hc:Γ.κ b≠0→w.heap[Γ.ν b]?=some (.cells c el (0,0))∧c.size=Γ.κ b)
  (h:∀ i,i<rows.length→qfh w Γ.I (Γ.R b i) t (rows.getD i [])∧((∀ m,ho≠some (i,m))→∃ v,c[i]?=some v∧qge (Γ.R b i) (rows.getD i []).length v)):RepB w Γ b (.nest t rows ho):=by
 simp only [RepB];refine ⟨hl,fun hk=>⟨c,el,(hc hk).1,(hc hk).2,fun i r hr=>?_⟩⟩
 have hi:i<rows.length:=(List.getElem?_eq_some_iff.1 hr).1;have:=h i hi
 rwa [qv2 hr] at this
theorem RepB.nest_el {b:Nat} {t:Ty} {rows:List (List (Den t))} {ho:Option (Nat×Nat)} (h:RepB w Γ b (.nest t rows ho)) (hk:Γ.κ b≠0):rows.length≤Γ.κ b∧∃ c el,w.heap[Γ.ν b]?=some (.cells c el (0,0))∧c.size=Γ.κ b ∧
  ∀ i,i<rows.length→qfh w Γ.I (Γ.R b i) t (rows.getD i [])∧((∀ m,ho≠some (i,m))→∃ v,c[i]?=some v∧qge (Γ.R b i) (rows.getD i []).length v):=by
 simp only [RepB] at h;obtain ⟨h1,h2⟩:=h;obtain ⟨c,el,g1,g2,g3⟩:=h2 hk;refine ⟨h1,c,el,g1,g2,fun i hi=>?_⟩
 have:=g3 i rows[i] (wab hi)
 rwa [waa,wab hi,Option.getD_some]
theorem qff {H:List Hs} {b:Nat} {x y:Hs} (hb:H[b]?=some y) (hy:y≠.free) (hx:x≠.free) (c:Nat) :
  (∃ h,H[c]?=some h∧h≠.free)↔∃ h,(H.set b x)[c]?=some h∧h≠.free:=by
 by_cases hbc:b=c
 ·subst hbc;rw [waw];simp only [if_true,qbf hb];exact ⟨fun _=>⟨x,rfl,hx⟩,fun _=>⟨_,hb,hy⟩⟩
 ·rw [wah hbc]
theorem qvg (em:Emb Γ S a w) {x y:Operand} {t:TypeId} {ty:Ty} (ht:tyS P t=some ty) {o:Oper} (ho:o.op=.store t x y) {b s i o':Nat} (r1:Ra w Γ (.ref b s i o') (a.eval x)) {Y:AV} (r2:Ra w Γ Y (a.eval y))
  (hob:allP (qj1 S.H ty b s i o' Y).ob):Does P Γ S.H w (qj1 S.H ty b s i o' Y) ((execOp a.eval o).run P w):=by
 obtain ⟨h3,hv⟩:=qc3.1 r1;have e:=em.heap;unfold qj1 at hob ⊢;split at hob
 case h_2=>exact qaa hob
 rename_i n p f hm;split at hob
 case h_2=>exact qaa hob
 rename_i te rows ho' hg;have hn:=qaw hg
 by_cases hs:s=sz te∧o'=0
 case neg=>rw [if_neg hs] at hob;exact qaa hob
 rw [if_pos hs] at hob ⊢;obtain ⟨rfl,rfl⟩:=hs
 cases Y with
 | val t' z0 =>
  simp only at hob ⊢
  by_cases htt:t'=ty
  case neg=>rw [if_neg htt] at hob;exact qaa hob
  rw [if_pos htt] at hob ⊢;subst htt
  cases hc:qa9 t' te z0 with
  | none=>rw [hc] at hob;exact qaa hob
  | some z =>
   rw [hc] at hob;simp only at hob ⊢;obtain ⟨rfl,rfl⟩:=qat hc;have hlt:=allP_one.1 hob;have hp:p<rows.length:=by
    apply Classical.byContradiction;intro hp;rw [waa,wac (by omega),Option.getD_none] at hlt
    simp at hlt
   obtain ⟨hA,q1,q2,q3⟩:=e.view_at hm hn hp;obtain ⟨L,hL,hv2⟩:=Ra_val.1 r2;have hcl:(a.eval y).cells.toList=L:=by
    rw [hv2];unfold mkV
    cases hag:isAgg t' with
    | true=>rfl
    | false =>
     have hl:=RepC.length _ _ _ hL;rw [RepC.one hag] at hl
     match L,hl,hL with
     | [u],_,hL =>
      simp only [wa2,if_false,List.headD_cons];rw [qch (RepC.oneCell _ _ _ hL u (by simp))]
   have hlen:=RepC.length _ _ _ hL;have q3':=q3;simp only [RepB] at q3';obtain ⟨k3,_,hB'⟩:=q3';have hk0:Γ.κ b≠0:=by omega
   obtain ⟨c,el,k1,k2,k5⟩:=hB' hk0;have hle:(i+1)*sz t'≤Γ.κ b*sz t':=Nat.mul_le_mul_right _ (by omega)
   rw [Nat.succ_mul] at hle;have hrun:(execOp a.eval o).run P w=.ok .skip (w.setRow (Γ.ν b) (qbb c (i*sz t'+0) L)):=by
    have:=qe9 ht k1 (off:=i*sz t'+0) (v:=a.eval y) (by rw [hcl];exact hlen) (by omega) (by rw [hcl];exact RepC.oneCell _ _ _ hL)
    rw [hcl] at this;simp only [execOp,ho,hv,Instr.storeAt,Instr.sureAddr,Sem.run_bind,Sem.run_pure,wbp,this]
   have hO:Γ.O n (Γ.ν b):=⟨p,by rw [← q1];exact hk0,(q2 hk0).symm⟩
   have hN:Nest S.H n:=⟨_,_,_,hn⟩;have hold:∀ k,k≠Γ.ν b→(w.setRow (Γ.ν b) (qbb c (i*sz t'+0) L)).heap[k]?=w.heap[k]?:=fun k hk=>qbz hk
   have hI:∀ k,Γ.I k→(w.setRow (Γ.ν b) (qbb c (i*sz t'+0) L)).heap[k]?=w.heap[k]?:=fun k hk=>hold k fun h=>e.rows.imm n _ hN hO (h▸hk)
   have hrow:=qlg q3 hI k1 (by simpa using setRow_heap w _ c _ el _ k1) hL hlt
   have hkn:=(e.blk n _ hn).nest_ne hp;obtain ⟨n1,hc',el',n2,n3,n4⟩:=(e.blk n _ hn).nest_el hkn;have hget:∀ d B,(S.H.set n (.live (.nest t' (rows.set p ((rows.getD p []).set i z)) ho')))[d]?=some (.live B)→(d=n∧B=.nest t' (rows.set p ((rows.getD p []).set i z)) ho')∨(d≠n∧S.H[d]?=some (.live B)):=fun d B h=>by
    rcases qav h with ⟨h1,h2⟩ | h
    ·cases h2;exact .inl ⟨h1,rfl⟩
    ·exact .inr h
   refine Does.skip hrun rfl (e.stepP (fun k=>k=Γ.ν b) rfl (fun _ h=>⟨h,rfl,rfl⟩) (fun d=>?_) (fun k _ hx=>hold k hx) (fun k hx=>.inl (.inr ⟨n,hN,hx▸hO⟩)) some (fun q hq h0=>.inl ⟨q,rfl,?_,h0,rfl⟩) (fun _ _ _ _ _ _ h=>by cases h;rfl) (fun d B hd=>?_)
    (e.vw_keep (fun _ h=>⟨h,rfl,rfl⟩) (fun m' b' i' f' hm'=>?_) fun d t2 rows2 ho2 _ hd=>⟨rfl,?_⟩) (by simp) rfl rfl) qcg
   ·rw [e.al];exact qjp hn (by simp) d
   ·obtain ⟨d,oo⟩:=q;have hL:∀ {d},Live (S.H.set n (.live (.nest t' (rows.set p ((rows.getD p []).set i z)) ho'))) d→Live S.H d:=fun {d} ⟨B,h⟩=>by
     rcases hget d B h with ⟨rfl,_⟩ | ⟨_,h⟩
     ·exact hN.live
     ·exact ⟨_,h⟩
    cases oo with
    | none=>exact hL hq
    | some j =>
     obtain ⟨t2,r2,o2,h⟩:=hq
     rcases hget d _ h with ⟨rfl,_⟩ | ⟨_,h⟩
     ·exact hN
     ·exact ⟨_,_,_,h⟩
   ·rcases hget d B hd with ⟨rfl,rfl⟩ | ⟨hne,h⟩
    ·refine .inl (RepB.nest_of (c:=hc') (el:=el') (by simpa using n1) (fun _=>⟨(hold _ fun hx=>e.rows.main d d _ hN hN.live hkn hO hx).trans n2,n3⟩) fun j hj=>?_)
     rw [waj] at hj;obtain ⟨m1,m2⟩:=n4 j hj;rw [qd1 hp]
     by_cases hpj:p=j
     ·subst hpj;rw [if_pos rfl];refine ⟨qfh.of_rep hrow q1 q2,fun hh=>?_⟩
      rw [waj];exact m2 hh
     ·rw [if_neg hpj];refine ⟨m1.mono (fun _ h=>h) hI fun hk=>hold _ fun hx=>hpj ?_,m2⟩
      exact (e.rows.one d j p hN hk (by rw [← q1];exact hk0) (hx.trans (q2 hk0))).symm
    ·refine .inr ⟨h,fun hk hx=>e.rows.main n d _ hN ⟨_,h⟩ hk hO hx,fun hd=>⟨rfl,fun k hk hx=>hne (e.rows.dis d n k hd hN hk (hx▸hO))⟩⟩
   ·rcases qb3 hm' with ⟨_,h⟩ | ⟨_,h⟩
    ·cases h
    ·exact h
   ·rcases hget d _ hd with ⟨rfl,h⟩ | ⟨_,h⟩
    ·cases h;exact ⟨_,_,_,hn,by simp⟩
    ·exact ⟨_,_,_,h,wad _⟩
 | _=>exact qaa hob
theorem qfu:∀ {a b:List (Nat×Hs)} {H:List Hs},qar H (a++b)=qar (qar H a) b
 | [],b,H=>rfl
 | p::a,b,H=>by simp only [wbc,qar];exact qfu
def noVw (b:Nat) (h:Hs):Hs:=match h with
 | .view b' i f=>match Nat.beq b' b with
  | true=>.dead
  | false=>.view b' i f
 | h=>h
theorem qn1 {b:Nat}:∀ {H K:List Hs},qar (K++H) (qkk b K.length H)=K++H.map (noVw b)
 | [],K=>by simp [qkk,qar]
 | h::H,K=>by
  have ih:∀ {K:List Hs},qar (K++H) (qkk b K.length H)=K++H.map (noVw b):=qn1 (b:=b) (H:=H);have skip:∀ h',qar (K++h'::H) (qkk b (K.length+1) H)=K++h'::H.map (noVw b):=fun h'=>by
   have:=ih (K:=K++[h']);simpa using this
  cases h with
  | view b' i f =>
   simp only [qkk,wbd,noVw]
   cases hb:Nat.beq b' b with
   | true =>
    simp only [qar];rw [List.set_append_right _ _ (wad _),Nat.sub_self,List.set_cons_zero];exact skip .dead
   | false=>exact skip _
  | free=>exact skip _
  | dead=>exact skip _
  | live B=>exact skip _
theorem qq1 {b:Nat}:qar H (qkk b 0 H)=H.map (noVw b):=qn1 (K:=[])
theorem qwi {b d:Nat} {x:Hs} (h:(H.map (noVw b))[d]?=some x):∃ y,H[d]?=some y∧x=noVw b y:=by
 rw [wao] at h
 cases hy:H[d]? with
 | none=>rw [hy] at h;cases h
 | some y=>rw [hy] at h;simp only [Option.map_some,waz] at h;exact ⟨y,rfl,h.symm⟩
theorem qd6 {b d:Nat} {B:Blk}:(H.map (noVw b))[d]?=some (.live B)↔H[d]?=some (.live B):=by
 constructor
 ·intro h;obtain ⟨y,hy,e⟩:=qwi h
  cases y with
  | live B'=>cases e;exact hy
  | free=>cases e
  | dead=>cases e
  | view b' i f =>
   simp only [noVw] at e;cases hb:Nat.beq b' b<;>rw [hb] at e<;>cases e
 ·intro h;rw [wao,h];rfl
theorem qi8 {b d b' i:Nat} {f:Bool} (h:(H.map (noVw b))[d]?=some (.view b' i f)):b'≠b∧H[d]?=some (.view b' i f):=by
 obtain ⟨y,hy,e⟩:=qwi h
 cases y with
 | view b2 i2 f2 =>
  simp only [noVw] at e;cases hb:Nat.beq b2 b<;>rw [hb] at e<;>cases e
  exact ⟨fun h=>(by rw [h,Nat.beq_refl] at hb;cases hb),hy⟩
 | free=>cases e
 | dead=>cases e
 | live B'=>cases e
theorem q9x {b:Nat} (d:Nat):(∃ h:Hs,H[d]?=some h∧h≠.free)↔∃ h:Hs,(H.map (noVw b))[d]?=some h∧h≠.free:=by
 rw [wao];constructor
 ·rintro ⟨h,h1,h2⟩;rw [h1];refine ⟨noVw b h,rfl,fun e=>h2 ?_⟩
  cases h with
  | view b' i f=>simp only [noVw] at e;cases hb:Nat.beq b' b<;>rw [hb] at e<;>cases e
  | free=>rfl
  | dead=>cases e
  | live B=>cases e
 ·rintro ⟨h,h1,h2⟩
  cases hy:H[d]? with
  | none=>rw [hy] at h1;cases h1
  | some y =>
   rw [hy] at h1;refine ⟨y,rfl,fun e=>h2 ?_⟩
   subst e;simp only [Option.map_some,noVw,waz] at h1;exact h1.symm
theorem EmbH.killVs (e:EmbH Γ H w) (b:Nat):EmbH Γ (H.map (noVw b)) w∧Ext Γ H w Γ (H.map (noVw b)) w:=by
 have hN:∀ d,Nest (H.map (noVw b)) d→Nest H d:=fun d ⟨t,r,o,h⟩=>⟨t,r,o,qd6.1 h⟩
 refine e.stepP (fun _=>False) rfl (fun _ h=>⟨h,rfl,rfl⟩) (fun d=>by rw [e.al];exact q9x d) (fun _ _ _=>rfl) (fun _ h=>h.elim) some (fun q hq h0=>.inl ⟨q,rfl,?_,h0,rfl⟩) (fun _ _ _ _ _ _ h=>by cases h;rfl)
  (fun d B hd=>.inr ⟨qd6.1 hd,fun _=>id,fun _=>⟨rfl,fun _ _=>id⟩⟩) (e.vw_keep (fun _ h=>⟨h,rfl,rfl⟩) (fun m' b' i' f' hm'=>(qi8 hm').2) fun d t2 rows2 ho2 _ hd=>⟨rfl,t2,rows2,ho2,qd6.1 hd,wad _⟩) (wad _) rfl rfl
 obtain ⟨d,oo⟩:=q
 cases oo with
 | none=>obtain ⟨B,h⟩:=hq;exact ⟨B,qd6.1 h⟩
 | some j=>exact hN d hq
theorem qok {b j:Nat} {R':Nat→Nat×Nat}:plAt { Γ with R:=upd Γ.R b R' } (b,some j)=R' j:=by simp only [plAt,qas]
theorem qr8 {b d j:Nat} {R':Nat→Nat×Nat} (h:d≠b):plAt { Γ with R:=upd Γ.R b R' } (d,some j)=plAt Γ (d,some j):=by simp only [plAt,qa6 h]
def rowσ (b:Nat) (σ:Nat→Nat×Option Nat):Nat×Option Nat→Option (Nat×Option Nat)
 | (d,none)=>some (d,none)
 | (d,some j)=>if d=b then some (σ j) else some (d,some j)
theorem qqv {b d:Nat} {σ:Nat→Nat×Option Nat}:rowσ b σ (d,none)=some (d,none):=rfl
theorem qe0 {b j:Nat} {σ:Nat→Nat×Option Nat}:rowσ b σ (b,some j)=some (σ j):=by simp [rowσ]
theorem qiz {b d j:Nat} {σ:Nat→Nat×Option Nat} (h:d≠b):rowσ b σ (d,some j)=some (d,some j):=by simp [rowσ,h]
theorem qi0 (e:EmbH Γ H w) {b i:Nat} {te:Ty} {rows rows':List (List (Den te))} {ho ho':Option (Nat×Nat)} (hb:H[b]?=some (.live (.nest te rows ho))) (hi:i<rows.length) (hl:rows'.length=rows.length) {v:Value}
  {c:Array Value} {el:TypeId} (hc:w.heap[Γ.ν b]?=some (.cells c el (0,0))) {R':Nat→Nat×Nat} {M:Nat→Prop} (hb':H'[b]?=some (.live (.nest te rows' ho')))
  (hlive:∀ d B,H'[d]?=some (.live B)→d≠b→¬ M d∧H[d]?=some (.live B)) (hA:∀ d:Nat,(∃ h:Hs,H[d]?=some h∧h≠.free)↔∃ h:Hs,H'[d]?=some h∧h≠.free)
  (σ:Nat→Nat×Option Nat) (hσ:∀ j,(R' j).2≠0→PlOk H (σ j)∧plAt Γ (σ j)=R' j∧((∃ k,σ j=(b,some k))∨∃ m,M m∧m≠b∧σ j=(m,none)))
  (hσi:∀ j j',(R' j).2≠0→(R' j').2≠0→σ j=σ j'→j=j')
  (hrow:∀ j,j<rows.length→qfh w Γ.I (R' j) te (rows'.getD j []))
  (hhead:∀ j,j<rows.length→(∀ m,ho'≠some (j,m))→(j=i∧qge (R' j) (rows'.getD j []).length v)∨(j≠i∧R' j=Γ.R b j∧(rows'.getD j []).length=(rows.getD j []).length∧∀ m,ho≠some (j,m)))
  (hvw:∀ m d k f,H'[m]?=some (.view d k f)→Γ.A d∧((d≠b∧H[m]?=some (.view d k f))∨(d=b∧(k<rows.length→Γ.κ m=(R' k).2∧(Γ.κ m≠0→Γ.ν m=(R' k).1))))) :
  EmbH { Γ with R:=upd Γ.R b R' } H' (w.setRow (Γ.ν b) (qbb c i [v]))∧Ext Γ H w { Γ with R:=upd Γ.R b R' } H' (w.setRow (Γ.ν b) (qbb c i [v])):=by
 have hN:Nest H b:=⟨_,_,_,hb⟩;have hkb:=(e.blk b _ hb).nest_ne hi;obtain ⟨n1,c',el',n2,n3,n4⟩:=(e.blk b _ hb).nest_el hkb;rw [hc] at n2;cases n2;have hfit:i+[v].length≤c.size:=by simp only [wa8];omega
 have hold:∀ k,k≠Γ.ν b→(w.setRow (Γ.ν b) (qbb c i [v])).heap[k]?=w.heap[k]?:=fun k hk=>qbz hk
 have hI:∀ k,Γ.I k→(w.setRow (Γ.ν b) (qbb c i [v])).heap[k]?=w.heap[k]?:=fun k hk=>hold k fun h=>e.imm b hN.live hkb (h▸hk)
 have hne:∀ {q:Nat×Option Nat},PlOk H q→(plAt Γ q).2≠0→q≠(b,none)→(plAt Γ q).1≠Γ.ν b:=fun {q} hq h0 hn h=>hn (e.uniq hq (q:=(b,none)) hN.live h0 hkb h)
 have hσb:∀ j,(R' j).2≠0→σ j≠(b,none):=fun j h0 h=>by
  rcases (hσ j h0).2.2 with ⟨k,hk⟩ | ⟨m,_,hm,hk⟩
  ·rw [hk] at h;cases h
  ·rw [hk] at h;cases h;exact hm rfl
 have hnest:∀ d,Nest H' d→d≠b→Nest H d:=fun d ⟨t,r,o,h⟩ hd=>⟨t,r,o,(hlive d _ h hd).2⟩
 refine e.stepP (fun k=>k=Γ.ν b) rfl (fun _ h=>⟨h,rfl,rfl⟩) (fun d=>by rw [e.al];exact hA d) (fun k _ hx=>hold k hx) (fun k hx=>.inl (.inl ⟨b,hN.live,hkb,hx.symm⟩))
  (rowσ b σ) (fun q hq h0=>.inl ?_) (fun q q' hq hq' h0 h0' heq=>?_) (fun d B hd=>?_) (fun m d k f hm=>?_) (by simp) rfl rfl
 ·obtain ⟨d,oo⟩:=q
  cases oo with
  | none =>
   refine ⟨(d,none),rfl,?_,h0,rfl⟩;obtain ⟨B,hB⟩:=hq
   by_cases hd:d=b
   ·subst hd;exact hN.live
   ·exact ⟨B,(hlive d B hB hd).2⟩
  | some j =>
   by_cases hd:d=b
   ·subst hd;rw [qok] at h0 ⊢;obtain ⟨h1,h2,_⟩:=hσ j h0;exact ⟨σ j,qe0,h1,by rw [h2];exact h0,by rw [h2]⟩
   ·rw [qr8 hd] at h0 ⊢;exact ⟨(d,some j),qiz hd,hnest d hq hd,h0,rfl⟩
 ·obtain ⟨d,oo⟩:=q;obtain ⟨d',oo'⟩:=q';have mm:∀ {x:Nat} {j:Nat},PlOk H' (x,none)→(R' j).2≠0→σ j≠(x,none):=fun {x j} ⟨B,hx⟩ hj h=>by
   rcases (hσ j hj).2.2 with ⟨k,hk⟩ | ⟨m,hM,hm,hk⟩
   ·rw [hk] at h;cases h
   ·rw [hk] at h;cases h;exact (hlive _ B hx hm).1 hM
  have nn:∀ {x y j:Nat},x≠b→(R' j).2≠0→σ j≠(x,some y):=fun {x y j} hxb hj h=>by
   rcases (hσ j hj).2.2 with ⟨k,hk⟩ | ⟨m,hM,hm,hk⟩
   ·rw [hk] at h;cases h;exact hxb rfl
   ·rw [hk] at h;cases h
  cases oo with
  | none=>cases oo' with
   | none=>exact Option.some.inj heq
   | some j' =>
    by_cases hd:d'=b
    ·subst hd;rw [qok] at h0';rw [qe0,qqv] at heq;exact absurd (Option.some.inj heq).symm (mm hq h0')
    ·rw [qiz hd,qqv] at heq;cases heq
  | some j=>cases oo' with
   | none =>
    by_cases hd:d=b
    ·subst hd;rw [qok] at h0;rw [qe0,qqv] at heq;exact absurd (Option.some.inj heq) (mm hq' h0)
    ·rw [qiz hd,qqv] at heq;cases heq
   | some j' =>
    by_cases hd:d=b<;>by_cases hd':d'=b
    ·subst hd;subst hd';rw [qok] at h0 h0';rw [qe0,qe0] at heq;rw [hσi j j' h0 h0' (Option.some.inj heq)]
    ·subst hd;rw [qok] at h0;rw [qe0,qiz hd'] at heq;exact absurd (Option.some.inj heq) (nn hd' h0)
    ·subst hd';rw [qok] at h0';rw [qe0,qiz hd] at heq;exact absurd (Option.some.inj heq).symm (nn hd h0')
    ·rw [qiz hd,qiz hd'] at heq;exact Option.some.inj heq
 ·by_cases hdb:d=b
  ·subst hdb;rw [hb'] at hd;cases hd;refine .inl (RepB.nest_of (c:=qbb c i [v]) (el:=el) (by rw [hl];exact n1) (fun _=>⟨setRow_heap w _ c _ el _ hc,by rw [qb1 hfit];exact n3⟩) fun j hj=>?_)
   rw [hl] at hj;simp only [qas];refine ⟨(hrow j hj).mono (fun _ h=>h) hI fun hk=>hold _ ?_,fun hh=>?_⟩
   ·obtain ⟨h1,h2,_⟩:=hσ j hk;have:=hne h1 (by rw [h2];exact hk) (hσb j hk)
    rw [h2] at this;exact this
   ·rcases hhead j hj hh with ⟨rfl,g⟩ | ⟨g1,g2,g3,g4⟩
    ·refine ⟨v,?_,g⟩;rw [qa2 hfit,if_pos (by simp)]
     simp
    ·obtain ⟨_,m2⟩:=n4 j hj;obtain ⟨u,u1,u2⟩:=m2 g4;refine ⟨u,?_,by rw [g2,g3];exact u2⟩
     rw [qa2 hfit,if_neg (by simp only [wa8];omega)]
     exact u1
  ·obtain ⟨_,h⟩:=hlive d B hd hdb;exact .inr ⟨h,fun hk hx=>hdb (e.inj d b ⟨_,h⟩ hN.live hk hkb hx),fun hd'=>⟨qa6 hdb,fun k hk hx=>e.rows.main d b k hd' hN.live hkb hk hx.symm⟩⟩
 ·obtain ⟨h1,h2⟩:=hvw m d k f hm;refine ⟨h1,fun t2 rows2 ho2 hd hk=>?_⟩
  rcases h2 with ⟨hdb,h2⟩ | ⟨rfl,h2⟩
  ·simp only [qa6 hdb];exact (e.vwA h2).2.2 t2 rows2 ho2 (hlive d _ hd hdb).2 hk
  ·rw [hb'] at hd;cases hd;simp only [qas];rw [hl] at hk;exact h2 hk
theorem qor {n:Nat} {opn:Bool} {c:Option Nat} {q:List Prop} (h:capC n opn c=some q) (hq:allP q):c=none∨(opn=false∧c=some n):=by
 cases c with
 | none=>exact .inl rfl
 | some c =>
  cases opn with
  | true=>simp [capC] at h
  | false =>
   simp only [capC,waz] at h;subst h;exact .inr ⟨rfl,by rw [allP_one.1 hq]⟩
theorem qu9 {m s len:Nat} {v:Value} (h:Ra w Γ (.sl m s 0 len none) v):qge (Γ.ν m,Γ.κ m) len v∧len≤Γ.κ m:=by
 obtain ⟨_,ad,cap,hv,hcap,hoff,hle⟩:=qca.1 h;simp only [Option.getD_none,Nat.sub_zero] at hcap;subst hcap;refine ⟨⟨ad,hv,fun hn=>Classical.byContradiction fun hc=>?_,fun hc=>by rw [hoff hc,Nat.zero_mul]⟩,hle⟩
 rw [hoff hc] at hn;cases hn
theorem qge.congr {p q:Nat×Nat} {L:Nat} {v:Value} (h:qge p L v) (h1:p.2=q.2) (h2:p.2≠0→p.1=q.1):qge q L v:=by
 obtain ⟨ad,g1,g2,g3⟩:=h;refine ⟨ad,by rw [← h1];exact g1,by rw [← h1];exact g2,fun hk=>?_⟩
 rw [← h1] at hk;rw [← h2 hk];exact g3 hk
theorem qvy {m s len:Nat} {t:Ty} {xs:List (Den t)} {opn:Bool} {c:Option Nat} {v:Value} (hB:RepB w Γ m (.arr t xs opn)) (hc:c=none∨(opn=false∧c=some xs.length)) (h:Ra w Γ (.sl m s 0 len c) v):qge (Γ.ν m,Γ.κ m) len v:=by
 rcases hc with rfl | ⟨rfl,rfl⟩
 ·exact (qu9 h).1
 ·simp only [RepB] at hB;have hk:=hB.2.1 trivial;refine (qu9 (w:=w) (s:=s) ?_).1;obtain ⟨hA,ad,cap,hv,hcap,hoff,hle⟩:=qca.1 h;exact qca.2 ⟨hA,ad,cap,hv,by simpa [hk] using hcap,hoff,hle⟩
theorem RepB.row {m:Nat} {t:Ty} {xs:List (Den t)} {opn:Bool} (hB:RepB w Γ m (.arr t xs opn)):qfh w Γ.I (Γ.ν m,Γ.κ m) t xs:=by
 simp only [RepB] at hB;obtain ⟨h1,_,h2⟩:=hB;exact ⟨h1,h2⟩
theorem q26 {p:Nat×Nat} {L:Nat} {v:Value} (h:qge p L v):v.cells.toList=[v]∧v.oneCell'=true:=by
 obtain ⟨ad,rfl,_⟩:=h;exact ⟨rfl,rfl⟩
theorem qft {b m:Nat}:∀ {H:List Hs} {n m2 i2:Nat},qtv b m n H=some (m2,i2)→n≤m2∧m2≠m∧H[m2-n]?=some (.view b i2 true)
 | [],n,m2,i2,h=>by simp [qtv] at h
 | .view b' i f::H,n,m2,i2,h=>by
  simp only [qtv] at h;split at h
  ·rename_i hh;cases h;simp only [wa3,Bool.not_eq_true'] at hh;obtain ⟨h1,h2,h3⟩:=hh;have h1:=wai h1;subst h1;subst h2;refine ⟨wad _,(fun h=>by rw [h,Nat.beq_refl] at h3;cases h3),by simp⟩
  ·obtain ⟨g1,g2,g3⟩:=qft h;refine ⟨by omega,g2,?_⟩
   rw [show m2-n=(m2-(n+1))+1 by omega,wa4]
   exact g3
 | .free::H,n,m2,i2,h=>by
  obtain ⟨g1,g2,g3⟩:=qft (H:=H) h;refine ⟨by omega,g2,?_⟩
  rw [show m2-n=(m2-(n+1))+1 by omega,wa4]
  exact g3
 | .dead::H,n,m2,i2,h=>by
  obtain ⟨g1,g2,g3⟩:=qft (H:=H) h;refine ⟨by omega,g2,?_⟩
  rw [show m2-n=(m2-(n+1))+1 by omega,wa4]
  exact g3
 | .live _::H,n,m2,i2,h=>by
  obtain ⟨g1,g2,g3⟩:=qft (H:=H) h;refine ⟨by omega,g2,?_⟩
  rw [show m2-n=(m2-(n+1))+1 by omega,wa4]
  exact g3
theorem qty {α:Type} {rows:List (List α)} {i j:Nat}:(quu rows i j).length=rows.length:=by simp [quu]
theorem qpt {α:Type} {rows:List (List α)} {i j k:Nat} (hi:i<rows.length) (hj:j<rows.length):(quu rows i j).getD k []=if k=j then rows.getD i [] else if k=i then rows.getD j [] else rows.getD k []:=by
 unfold quu;rw [qd1 (by simpa using hj)]
 by_cases h:j=k
 ·subst h;simp
 ·rw [if_neg h,if_neg (fun e=>h e.symm),qd1 hi]
  by_cases h2:i=k
  ·subst h2;simp
  ·rw [if_neg h2,if_neg (fun e=>h2 e.symm)]
theorem quz (em:Emb Γ S a w) {x y:Operand} {t:TypeId} {ty:Ty} (ht:tyS P t=some ty) {o:Oper} (ho:o.op=.store t x y) {b s i o':Nat} (r1:Ra w Γ (.ref b s i o') (a.eval x)) {Y:AV} (r2:Ra w Γ Y (a.eval y))
  {te:Ty} {rows:List (List (Den te))} {h0:Option (Nat×Nat)} (hb:S.H[b]?=some (.live (.nest te rows h0)))
  (hob:allP (qhf S.H ty b s i o' te rows h0 Y).ob):Does P Γ S.H w (qhf S.H ty b s i o' te rows h0 Y) ((execOp a.eval o).run P w):=by
 obtain ⟨hAb,hv⟩:=qc3.1 r1;have e:=em.heap;have hN:Nest S.H b:=⟨_,_,_,hb⟩;have run:∀ (hi:i<rows.length) {p:Nat×Nat} {L:Nat} (hs:s=1) (ho':o'=0) (hty:ty=.slice te) (hh:qge p L (a.eval y)),∃ c el,w.heap[Γ.ν b]?=some (.cells c el (0,0))∧(execOp a.eval o).run P w=.ok .skip (w.setRow (Γ.ν b) (qbb c i [a.eval y])):=fun hi p L hs ho' hty hh=>by
  subst hs;subst ho';subst hty;obtain ⟨n1,c,el,n2,n3,_⟩:=(e.blk b _ hb).nest_el ((e.blk b _ hb).nest_ne hi);obtain ⟨h1,h2⟩:=q26 hh;have:=qe9 ht n2 (off:=i*1+0) (v:=a.eval y) (by rw [h1];rfl) (by simp only [sz];omega) (by rw [h1];simpa using h2)
  rw [h1] at this;refine ⟨c,el,n2,?_⟩;simp only [execOp,ho,hv,Instr.storeAt,Instr.sureAddr,Sem.run_bind,Sem.run_pure,wbp,this];simp
 cases Y with
 | sl m s' j len c =>
  simp only [qhf] at hob ⊢
  by_cases hsh:(s=1∧o'=0)∧(ty=.slice te∧s'=sz te∧j=0)
  case neg=>rw [if_neg hsh] at hob;exact qaa hob
  rw [if_pos hsh] at hob ⊢;obtain ⟨⟨hs,ho'⟩,hty,hs',rfl⟩:=hsh
  cases hm:S.H[m]? with
  | none=>rw [hm] at hob;exact qaa hob
  | some X =>
   rw [hm] at hob
   cases X with
   | free=>exact qaa hob
   | dead=>exact qaa hob
   | live B =>
    cases B with
    | arr te' xs opn =>
     simp only at hob ⊢
     cases hc:qda te' te xs with
     | none=>rw [hc] at hob;exact qaa hob
     | some ys =>
      rw [hc] at hob;obtain ⟨e1,e2⟩:=qbx hc;subst e1;subst e2
      cases hq:capC ys.length opn c with
      | none=>rw [hq] at hob;exact qaa hob
      | some q =>
       rw [hq] at hob
       cases h0 with
       | some _=>exact qaa hob
       | none =>
        simp only at hob ⊢;obtain ⟨o1,o2⟩:=qag.1 hob;obtain ⟨hi,o1⟩:=qa0.1 o1;have hlen:=allP_one.1 o1;have hM:=e.blk m _ hm;have hh:=qvy hM (qor hq o2) r2;obtain ⟨cc,el,n2,hr⟩:=run hi hs ho' hty hh;have hmb:m≠b:=fun h=>by rw [h,hb] at hm;cases hm
        obtain ⟨k1,k2⟩:=e.killVs b;have hb1:(S.H.map (noVw b))[b]?=some (.live (.nest te' rows none)):=qd6.2 hb;have hm1:(S.H.map (noVw b))[m]?=some (.live (.arr te' ys opn)):=qd6.2 hm;have hst:=qi0 (Γ:=Γ) (H':=((S.H.map (noVw b)).set b (.live (.nest te' (rows.set i ys) none))).set m (.view b i false)) k1 hb1 hi (rows':=rows.set i ys) (ho':=none) (by simp) (v:=a.eval y) n2 (R':=upd (Γ.R b) i (Γ.ν m,Γ.κ m)) (M:=fun d=>d=m)
         (by rw [wah hmb,waw];simp [qbf hb])
         (fun d B hd hdb=>by
          rcases qav hd with ⟨_,h⟩ | ⟨hdm,hd⟩
          ·cases h
          ·rcases qav hd with ⟨h,_⟩ | ⟨_,hd⟩
           ·exact absurd h hdb
           ·exact ⟨hdm,hd⟩)
         (fun d=>(qff hb1 (by simp) (by simp) d).trans (qff (by rw [wah (fun h=>hmb h.symm)];exact hm1) (by simp) (by simp) d))
         (fun j=>if j=i then (m,none) else (b,some j))
         (fun j hj=>by
          by_cases hji:j=i
          ·subst hji;rw [if_pos rfl,qas];exact ⟨⟨_,hm1⟩,rfl,.inr ⟨m,rfl,hmb,rfl⟩⟩
          ·rw [if_neg hji,qa6 hji];exact ⟨⟨_,_,_,hb1⟩,rfl,.inl ⟨j,rfl⟩⟩)
         (fun j j' hj hj' h=>by
          by_cases hji:j=i<;>by_cases hji':j'=i
          ·omega
          ·rw [if_pos hji,if_neg hji'] at h;cases h
          ·rw [if_neg hji,if_pos hji'] at h;cases h
          ·rw [if_neg hji,if_neg hji'] at h;cases h;rfl)
         (fun j hj=>by
          rw [qd1 hi]
          by_cases hji:j=i
          ·subst hji;rw [if_pos rfl,qas];exact hM.row
          ·rw [if_neg (fun h=>hji h.symm),qa6 hji];exact (e.blk b _ hb).nest_row hj)
         (fun j hj _=>by
          rw [qd1 hi]
          by_cases hji:j=i
          ·subst hji;rw [if_pos rfl,qas,← hlen];exact .inl ⟨rfl,hh⟩
          ·rw [if_neg (fun h=>hji h.symm),qa6 hji]
           exact .inr ⟨hji,rfl,rfl,fun _ h=>by cases h⟩)
         (fun m' d k f hm'=>by
          rcases qb3 hm' with ⟨rfl,h⟩ | ⟨_,hm'⟩
          ·cases h;exact ⟨hAb,.inr ⟨rfl,fun _=>by rw [qas];exact ⟨rfl,fun _=>rfl⟩⟩⟩
          ·rcases qb3 hm' with ⟨_,h⟩ | ⟨_,hm'⟩
           ·cases h
           ·exact ⟨(k1.vwA hm').2.1,.inl ⟨(qi8 hm').1,hm'⟩⟩)
        refine Does.skip hr ?_ ⟨hst.1,k2.trans hst.2⟩ qcg;rw [qfu,qq1];rfl
    | _=>exact qaa hob
   | view b' p f =>
    simp only at hob ⊢
    cases hbb:Nat.beq b' b with
    | false=>rw [hbb] at hob;exact qaa hob
    | true =>
     have hbb':=wai hbb;subst hbb';rw [hbb] at hob
     cases c with
     | some _=>exact qaa hob
     | none =>
      obtain ⟨hh,hlk⟩:=qu9 r2;have hvw:=e.vwA hm;have at_p:p<rows.length→Γ.κ m=(Γ.R b' p).2∧(Γ.κ m≠0→Γ.ν m=(Γ.R b' p).1):=fun hp=>hvw.2.2 te rows h0 hb hp
      have same:∀ (rows':List (List (Den te))) (hi:i<rows.length) (hip:i=p) (hl:rows'.length=rows.length) (hlen:(rows'.getD p []).length=len) (hrow:∀ j,j<rows.length→qfh w Γ.I (Γ.R b' j) te (rows'.getD j []))
        (hoth:∀ j,j≠p→(rows'.getD j []).length=(rows.getD j []).length∧∀ m,h0≠some (j,m)),
        ∃ w',(execOp a.eval o).run P w=.ok .skip w'∧EmbH Γ (S.H.set b' (.live (.nest te rows' none))) w'∧Ext Γ S.H w Γ (S.H.set b' (.live (.nest te rows' none))) w':=fun rows' hi hip hl hlen hrow hoth=>by
       subst hip;obtain ⟨q1,q2⟩:=at_p hi;obtain ⟨cc,el,n2,hr⟩:=run hi hs ho' hty hh;have hst:=qi0 (Γ:=Γ) (H':=S.H.set b' (.live (.nest te rows' none))) e hb hi (rows':=rows') (ho':=none) hl (v:=a.eval y) n2 (R':=Γ.R b') (M:=fun _=>False)
        (by rw [waw];simp [qbf hb])
        (fun d B hd hdb=>by
         rcases qav hd with ⟨h,_⟩ | ⟨_,hd⟩
         ·exact absurd h hdb
         ·exact ⟨id,hd⟩)
        (fun d=>qff hb (by simp) (by simp) d)
        (fun j=>(b',some j)) (fun j hj=>⟨hN,rfl,.inl ⟨j,rfl⟩⟩) (fun j j' hj hj' h=>by cases h;rfl) hrow
        (fun j hj _=>by
         by_cases hji:j=i
         ·subst hji;exact .inl ⟨rfl,by rw [hlen];exact hh.congr q1 q2⟩
         ·exact .inr ⟨hji,rfl,hoth j hji⟩)
        (fun m' d k f hm'=>by
         rcases qb3 hm' with ⟨_,h⟩ | ⟨_,hm'⟩
         ·cases h
         ·obtain ⟨v1,v2,v3⟩:=e.vwA hm';refine ⟨v2,?_⟩
          by_cases hd:d=b'
          ·subst hd;exact .inr ⟨rfl,v3 te rows h0 hb⟩
          ·exact .inl ⟨hd,hm'⟩)
       have hR:{ Γ with R:=upd Γ.R b' (Γ.R b') }=Γ:=by
        have:upd Γ.R b' (Γ.R b')=Γ.R:=by
         funext d
         by_cases hd:d=b'
         ·subst hd;exact qas
         ·exact qa6 hd
        rw [this]
       rw [hR] at hst;exact ⟨_,hr,hst⟩
      cases f with
      | false =>
       cases h0 with
       | some qm =>
        obtain ⟨q,m'⟩:=qm;simp only at hob ⊢
        cases hmm:Nat.beq m' m with
        | false=>rw [hmm] at hob;exact qaa hob
        | true =>
         rw [hmm] at hob;simp only at hob ⊢;obtain ⟨hi,hob⟩:=qa0.1 hob;obtain ⟨hiq,hob⟩:=qa0.1 hob;obtain ⟨hip,hob⟩:=qa0.1 hob;have hlen:=allP_one.1 hob;obtain ⟨w',g1,g2,g3⟩:=same rows hi hip rfl hlen.symm (fun j hj=>(e.blk _ _ hb).nest_row hj) (fun j hj=>⟨rfl,fun m h=>by cases h;omega⟩)
         exact Does.skip g1 rfl ⟨g2,g3⟩ qcg
       | none =>
        simp only at hob ⊢;obtain ⟨hi,hob⟩:=qa0.1 hob;obtain ⟨hip,hob⟩:=qa0.1 hob;have hlen:=allP_one.1 hob;have hp:p<rows.length:=by omega
        obtain ⟨w',g1,g2,g3⟩:=same (rows.set p ((rows.getD p []).take len)) hi hip (by simp) (by rw [qd1 hp,if_pos rfl,wan];exact Nat.min_eq_left hlen) (fun j hj=>by
          rw [qd1 hp];split
          ·rename_i h;subst h;exact ((e.blk _ _ hb).nest_row hj).take len
          ·exact (e.blk _ _ hb).nest_row hj)
         (fun j hj=>⟨by rw [qd1 hp,if_neg (fun h=>hj h.symm)],fun m h=>by cases h⟩)
        exact Does.skip g1 rfl ⟨g2,g3⟩ qcg
      | true =>
       cases h0 with
       | some _=>exact qaa hob
       | none =>
        simp only at hob ⊢
        cases hf:qtv b' m 0 S.H with
        | none=>rw [hf] at hob;exact qaa hob
        | some mi =>
         obtain ⟨m2,i2⟩:=mi;rw [hf] at hob;simp only at hob ⊢;obtain ⟨hi,hob⟩:=qa0.1 hob;obtain ⟨hp,hob⟩:=qa0.1 hob;obtain ⟨hii,hob⟩:=qa0.1 hob;have hlen:=allP_one.1 hob;subst hii;obtain ⟨_,hm2m,hm2⟩:=qft hf;rw [Nat.sub_zero] at hm2;obtain ⟨q1,q2⟩:=at_p hp;obtain ⟨_,_,v2⟩:=e.vwA hm2;obtain ⟨q3,q4⟩:=v2 te rows none hb hi;obtain ⟨cc,el,n2,hr⟩:=run hi hs ho' hty hh;have hmb:m≠b':=fun h=>by rw [h,hb] at hm;cases hm
         have hmb2:m2≠b':=fun h=>by rw [h,hb] at hm2;cases hm2
         obtain ⟨k1,k2⟩:=e.killVs b';have hb1:(S.H.map (noVw b'))[b']?=some (.live (.nest te rows none)):=qd6.2 hb;have hv1:∀ {m' k:Nat} {f:Bool},S.H[m']?=some (.view b' k f)→(S.H.map (noVw b'))[m']?=some .dead:=fun {m' k f} h=>by
          rw [wao,h];simp [noVw]
         have hm1:=hv1 hm;have hm21:=hv1 hm2;have hst:=qi0 (Γ:=Γ) (H':=(((S.H.map (noVw b')).set b' (.live (.nest te (quu rows i p) (some (p,m2))))).set m (.view b' i false)).set m2 (.view b' p false)) k1 hb1 hi (rows':=quu rows i p) (ho':=some (p,m2)) qty (v:=a.eval y) n2
          (R':=fun j=>if j=i then Γ.R b' p else if j=p then Γ.R b' i else Γ.R b' j) (M:=fun _=>False)
          (by rw [wah hmb2,wah hmb,waw];simp [qbf hb])
          (fun d B hd hdb=>by
           rcases qav hd with ⟨_,h⟩ | ⟨_,hd⟩
           ·cases h
           ·rcases qav hd with ⟨_,h⟩ | ⟨_,hd⟩
            ·cases h
            ·rcases qav hd with ⟨h,_⟩ | ⟨_,hd⟩
             ·exact absurd h hdb
             ·exact ⟨id,hd⟩)
          (fun d=>(qff hb1 (by simp) (by simp) d).trans ((qff (by rw [wah (fun h=>hmb h.symm)];exact hm1) (by simp) (by simp) d).trans (qff (by rw [wah (fun h=>hm2m h.symm),wah (fun h=>hmb2 h.symm)];exact hm21) (by simp) (by simp) d)))
          (fun j=>(b',some (if j=i then p else if j=p then i else j)))
          (fun j hj=>by
           refine ⟨⟨_,_,_,hb1⟩,?_,.inl ⟨_,rfl⟩⟩;simp only [plAt];split
           ·rfl
           ·split<;>rfl)
          (fun j j' hj hj' h=>by
           simp only [wa1,waz,true_and] at h;split at h<;>split at h<;>(try split at h)<;>(try split at h)<;>omega)
          (fun j hj=>by
           rw [qpt hi hp]
           by_cases hji:j=i
           ·subst hji;rw [if_pos rfl]
            by_cases hjp:j=p
            ·subst hjp;rw [if_pos rfl];exact (e.blk _ _ hb).nest_row hj
            ·rw [if_neg hjp,if_pos rfl];exact (e.blk _ _ hb).nest_row hp
           ·rw [if_neg hji]
            by_cases hjp:j=p
            ·rw [if_pos hjp,if_pos hjp];exact (e.blk _ _ hb).nest_row hi
            ·rw [if_neg hjp,if_neg hjp,if_neg hji];exact (e.blk _ _ hb).nest_row hj)
          (fun j hj hno=>by
           have hjp:j≠p:=fun h=>hno m2 (by rw [h])
           rw [qpt hi hp]
           by_cases hji:j=i
           ·refine .inl ⟨hji,?_⟩;subst hji;simp only [hjp,if_true,if_false];rw [← hlen];exact hh.congr q1 q2
           ·refine .inr ⟨hji,?_⟩;simp only [hji,hjp,if_false];exact ⟨trivial,trivial,fun _ h=>by cases h⟩)
          (fun m' d k f hm'=>by
           rcases qb3 hm' with ⟨rfl,h⟩ | ⟨_,hm'⟩
           ·cases h;refine ⟨hAb,.inr ⟨rfl,fun _=>?_⟩⟩
            by_cases hpi:p=i
            ·subst hpi;rw [if_pos rfl];exact ⟨q3,q4⟩
            ·rw [if_neg hpi,if_pos rfl];exact ⟨q3,q4⟩
           ·rcases qb3 hm' with ⟨rfl,h⟩ | ⟨_,hm'⟩
            ·cases h;refine ⟨hAb,.inr ⟨rfl,fun _=>?_⟩⟩
             rw [if_pos rfl];exact ⟨q1,q2⟩
            ·rcases qb3 hm' with ⟨_,h⟩ | ⟨_,hm'⟩
             ·cases h
             ·exact ⟨(k1.vwA hm').2.1,.inl ⟨(qi8 hm').1,hm'⟩⟩)
         refine Does.skip hr ?_ ⟨hst.1,k2.trans hst.2⟩ qcg;rw [qfu,qq1];rfl
 | _=>exact qaa hob
theorem q0e {pre:List AV} {te:Ty} {xs:List (Den te)} {j:Nat} {y:AV} (h:j<pre.length):(mixL pre te xs).set j y=mixL (pre.set j y) te xs:=by
 unfold mixL;rw [List.set_append_left _ _ h]
theorem q3u {pre:List AV} {te:Ty} {xs:List (Den te)} {i:Nat} {z:Den te}:(mixL pre te xs).set (pre.length+i) (.val te z)=mixL pre te (xs.set i z):=by
 unfold mixL;rw [List.set_append_right _ _ (Nat.le_add_right _ _),Nat.add_sub_cancel_left,List.map_set]
theorem qw6 {pre:List AV} {te:Ty} {xs:List (Den te)}:(mixL pre te xs).length=pre.length+xs.length:=by simp [mixL]
theorem qup (em:Emb Γ S a w) {x y:Operand} {t:TypeId} {ty:Ty} (ht:tyS P t=some ty) {o:Oper} (ho:o.op=.store t x y) {b i o':Nat} {pre:List AV} {te:Ty} {xs:List (Den te)}
  (hv:a.eval x=.pointer (some ⟨Γ.ν b,i*1+o',none⟩)) {Y:AV} (r2:Ra w Γ Y (a.eval y)) (hH:S.H[b]?=some (.live (.mix pre te xs))) (hag:isAgg ty=false)
  (hob:allP (qsw ty b i o' pre te xs Y).ob):Does P Γ S.H w (qsw ty b i o' pre te xs Y) ((execOp a.eval o).run P w):=by
 have hB:=em.heap.blk b _ hH;obtain ⟨hte,hBc⟩:=qd0.1 hB;have hBc':=hBc;simp only [RepB] at hBc';obtain ⟨hk0,c,el,k1,k2,k3⟩:=hBc';have step:∀ (j:Nat) (B':Blk),i*1+o'=j→j<(mixL pre te xs).length→qdz Y=true→(∀ w',RepB w' Γ b (.cells ((mixL pre te xs).set j Y))→RepB w' Γ b B')→(∀ t r o,B'≠.nest t r o)→∀ ob,
   Does P Γ S.H w ⟨ob,.undef,[(b,.live B')],[b]⟩ ((execOp a.eval o).run P w):=fun j B' hj hlt hs hB' hnn ob=>by
  have h1:=qfn hs r2;have hc1:=qch h1;have hcl:(a.eval y).cells.toList=[a.eval y]:=by rw [hc1]
  have hrun:(execOp a.eval o).run P w=.ok .skip (w.setRow (Γ.ν b) (qbb c (i*1+o') (a.eval y).cells.toList)):=by
   have hst:=qe9 (cur:=c) (v:=a.eval y) (off:=i*1+o') ht k1 (by rw [hcl,RepC.one hag];rfl) (by rw [RepC.one hag];omega) (by rw [hcl];simpa using h1)
   simp only [execOp,ho,hv,Instr.storeAt,Instr.sureAddr,Sem.run_bind,Sem.run_pure,wbp,hst]
  have hold:∀ n,Γ.I n→(w.setRow (Γ.ν b) (qbb c (i*1+o') (a.eval y).cells.toList)).heap[n]?=w.heap[n]?:=fun n hn =>
   qbz fun h=>em.heap.imm b ⟨_,hH⟩ hk0 (h▸hn)
  refine Does.skip hrun rfl (em.heap.setRow hH hk0 ?_ (fun t r o e=>absurd e (hnn t r o))) qcg
  refine hB' _ ?_;have:=qii (cs:=[Y]) hBc hold trivial k1 (setRow_heap w _ c _ el _ k1) (by rw [hcl];exact ⟨r2,trivial⟩) (by rw [hcl];simpa using h1) (by rw [hj];exact hlt)
  rw [hj] at this ⊢;exact this
 have put:∀ (n:Nat),i*1+o'=pre.length+n→allP (qqd ty b n pre te xs Y).ob→Does P Γ S.H w (qqd ty b n pre te xs Y) ((execOp a.eval o).run P w):=fun n hn hob2=>by
  cases Y with
  | val t' z =>
   simp only [qqd] at hob2 ⊢
   by_cases htt:t'=ty
   case neg=>rw [if_neg htt] at hob2;exact qaa hob2
   rw [if_pos htt] at hob2 ⊢;subst htt
   cases hc:qa9 t' te z with
   | none=>rw [hc] at hob2;exact qaa hob2
   | some z' =>
    rw [hc] at hob2;have hlt:=allP_one.1 hob2;obtain ⟨e,he⟩:=qat hc;cases e;subst he;refine step (pre.length+n) _ hn (by rw [qw6];omega) (by simp [qdz,hag]) (fun w' h=>qd0.2 ⟨hte,?_⟩) (by intro t r o h;cases h) _
    rw [q3u] at h;exact h
  | _=>exact qaa hob2
 unfold qsw at hob ⊢
 cases o' with
 | zero =>
  simp only at hob ⊢
  cases hb:Nat.ble pre.length i with
  | false =>
   rw [hb] at hob;simp only at hob ⊢
   cases hs:qdz Y with
   | false=>rw [hs] at hob;exact qaa hob
   | true =>
    have hlt:i<pre.length:=Nat.lt_of_not_le fun h=>by rw [Nat.ble_eq_true_of_le h] at hb;cases hb
    refine step i _ (by omega) (by rw [qw6];omega) hs (fun w' h=>qd0.2 ⟨hte,?_⟩) (by intro t r o h;cases h) _
    rw [q0e hlt] at h;exact h
  | true =>
   rw [hb] at hob;have:=Nat.le_of_ble_eq_true hb;exact put _ (by omega) hob
 | succ o' =>
  simp only at hob ⊢
  cases hb:Nat.beq (o'+1) pre.length with
  | false=>rw [hb] at hob;exact qaa hob
  | true =>
   rw [hb] at hob;have:=wai hb;exact put _ (by omega) hob
theorem qx7 (em:Emb Γ S a w) (sp:Spec) (base:Nat) {tx tv:Option Ty} {x y:Operand} {x' y':Od} (hx:cOd tx x=some x') (hy:cOd tv y=some y') {t:TypeId} {ty:Ty} (ht:tyS P t=some ty)
  {o:Oper} (ho:o.op=.store t x y)
  (hob:allP (aeff sp base S.T S.H (.store ty x' y')).ob):Does P Γ S.H w (aeff sp base S.T S.H (.store ty x' y')) ((execOp a.eval o).run P w):=by
 have r1:=qaj em hx;have r2:=qaj em hy;rw [aeff] at hob ⊢;have hob0:=qbh hob;clear hob;obtain ⟨p,hob⟩:=hob0;have r1:=qah r1 p
 revert hob
 dsimp only [p1]
 generalize (peel (ev S.T x')).2=X at r1;intro hob
 cases X with
 | ref b s i o' =>
  obtain ⟨h3,hv⟩:=qc3.1 r1;simp only at hob ⊢;have hob0:=qag.1 hob;clear hob;obtain ⟨q,hob⟩:=hob0;have r2:=qah r2 q
  revert hob
  generalize (peel (ev S.T y')).2=Y at r2;intro hob;unfold qns at hob ⊢
  cases hg:hget S.H b with
  | none =>
   rw [hg] at hob;have:=qvg em ht ho (qc3.2 ⟨h3,hv⟩) r2 hob;unfold Does at this ⊢;exact this
  | some B =>
   have hH:=qaw hg;have hB:=em.heap.blk b B hH;rw [hg] at hob;have hrun:∀ (cur:Array Value) el,w.heap[Γ.ν b]?=some (.cells cur el (0,0))→(a.eval y).cells.toList.length=sz ty→i*s+o'+sz ty≤cur.size→(∀ u∈(a.eval y).cells.toList,u.oneCell'=true) →
     (execOp a.eval o).run P w=.ok .skip (w.setRow (Γ.ν b) (qbb cur (i*s+o') (a.eval y).cells.toList)):=fun cur el g1 g2 g3 g4=>by
    simp only [execOp,ho,hv,Instr.storeAt,Instr.sureAddr,Sem.run_bind,Sem.run_pure,wbp,qe9 ht g1 g2 g3 g4]
   cases B with
   | cells vs =>
    simp only at hob ⊢
    cases hcs:cellsOf ty Y with
    | none=>rw [hcs] at hob;exact qaa hob
    | some cs =>
     rw [hcs] at hob;simp only at hob ⊢;split at hob
     ·rename_i hfit;obtain ⟨f1,f2,f3⟩:=qj4 hcs r2;have hB':=hB;simp only [RepB] at hB';obtain ⟨hk0,c,el,k1,k2,k3⟩:=hB';have hl:=f1.length;have hold:∀ n,Γ.I n→(w.setRow (Γ.ν b) (qbb c (i*s+o') (a.eval y).cells.toList)).heap[n]?=w.heap[n]?:=fun n hn =>
       qbz fun h=>em.heap.imm b ⟨_,hH⟩ hk0 (h▸hn)
      rw [if_pos hfit];refine Does.skip (hrun c el k1 (by omega) (by omega) f3) rfl (em.heap.setRow hH hk0 ?_) qcg
      exact qii hB hold trivial k1 (setRow_heap w _ c _ el _ k1) f1 f3 (by omega)
     ·exact qaa hob
   | mix pre te xs =>
    simp only at hob ⊢
    by_cases hs:s=1∧isAgg ty=false
    case neg=>rw [if_neg hs] at hob;exact qaa hob
    rw [if_pos hs] at hob ⊢;obtain ⟨rfl,hag⟩:=hs;have:=qup em ht ho hv r2 hH hag hob;unfold Does at this ⊢;exact this
   | arr te xs opn =>
    simp only at hob ⊢
    by_cases hs:s=sz te∧o'=0
    ·rw [if_pos hs] at hob ⊢;obtain ⟨hs,h0⟩:=hs;subst h0
     cases Y with
     | val t' z =>
      simp only at hob ⊢
      by_cases htt:t'=ty
      ·rw [if_pos htt] at hob ⊢;subst htt;obtain ⟨L,hL,hv2⟩:=Ra_val.1 r2;have hcl:(a.eval y).cells.toList=L:=by
        rw [hv2];unfold mkV
        cases hag:isAgg t' with
        | true=>rfl
        | false =>
         have hl:=RepC.length _ _ _ hL;rw [RepC.one hag] at hl
         match L,hl,hL with
         | [u],_,hL =>
          simp only [wa2,if_false,List.headD_cons];rw [qch (RepC.oneCell _ _ _ hL u (by simp))]
       have hlen:=RepC.length _ _ _ hL;have hB':=hB;simp only [RepB] at hB';obtain ⟨k3,k4,hB'⟩:=hB'
       by_cases hk0:Γ.κ b≠0
       rotate_left
       ·have hx0:xs.length=0:=by omega
        cases hc:qa9 t' te z with
        | some z'=>rw [hc] at hob;have:=allP_one.1 hob;omega
        | none =>
         rw [hc] at hob;simp only at hob ⊢
         by_cases hcond:(sz te=1∧0<sz t')∧qe2 te t'=true
         ·rw [if_pos hcond] at hob;have hle:i+sz t'≤xs.length:=allP_one.1 hob;have:=hcond.1.2;omega
         ·rw [if_neg hcond] at hob;exact qaa hob
       obtain ⟨c,el,k1,k2,k5⟩:=hB' hk0;rw [hcl] at hrun;have hold:∀ n,Γ.I n→(w.setRow (Γ.ν b) (qbb c (i*s+0) L)).heap[n]?=w.heap[n]?:=fun n hn =>
        qbz fun h=>em.heap.imm b ⟨_,hH⟩ hk0 (h▸hn)
       cases hc:qa9 t' te z with
       | some z' =>
        rw [hc] at hob;obtain ⟨rfl,rfl⟩:=qat hc;have hlt:=allP_one.1 hob;have hle:(i+1)*sz t'≤Γ.κ b*sz t':=Nat.mul_le_mul_right _ (by omega)
        rw [Nat.succ_mul] at hle;refine Does.skip (hrun c el k1 hlen (by rw [hs];omega) (RepC.oneCell _ _ _ hL)) rfl (em.heap.setRow hH hk0 ?_) qcg
        exact qlg hB hold k1 (by rw [← hs];exact setRow_heap w _ c _ el _ k1) hL hlt
       | none =>
        rw [hc] at hob;simp only at hob ⊢
        by_cases hcond:(sz te=1∧0<sz t')∧qe2 te t'=true
        ·rw [if_pos hcond] at hob ⊢;have hle:=allP_one.1 hob
         replace hcond:sz te=1∧qe2 te t'=true:=⟨hcond.1.1,hcond.2⟩
         have hfl:=qgd (w:=w) (Γ:=Γ) te t' z L hcond.2 hcond.1 hL;refine Does.skip (hrun c el k1 hlen (by rw [hs,hcond.1];rw [hcond.1] at k2;omega) (RepC.oneCell _ _ _ hL)) rfl (em.heap.setRow hH hk0 ?_) qcg
         exact qrv hB hcond.1 hold k1 (by rw [hs,hcond.1];simpa using setRow_heap w _ c _ el _ k1) hfl (by omega)
        ·rw [if_neg hcond] at hob;exact qaa hob
      ·rw [if_neg htt] at hob;exact qaa hob
     | _=>exact qaa hob
    ·rw [if_neg hs] at hob;exact qaa hob
   | map k v es=>exact qaa hob
   | pmap k v es=>exact qaa hob
   | nest te rows h0 =>
    have:=quz em ht ho (qc3.2 ⟨h3,hv⟩) r2 hH hob;unfold Does at this ⊢;exact this
 | _=>exact qaa hob
theorem EmbH.addView (e:EmbH Γ H w) {k b i:Nat} {f:Bool} (hk:H[k]?=some .free) (hb:Nest H b) :
  EmbH (Γ.new k (Γ.R b i).1 (Γ.R b i).2) (H.set k (.view b i f)) w∧Ext Γ H w (Γ.new k (Γ.R b i).1 (Γ.R b i).2) (H.set k (.view b i f)) w:=by
 have hkA:=qdw e hk;have hL:∀ {d B},(H.set k (.view b i f))[d]?=some (.live B)→d≠k∧H[d]?=some (.live B):=fun {d B} h=>by
  rcases qav h with ⟨_,h⟩ | h
  ·cases h
  ·exact h
 refine e.stepP (fun _=>False) rfl (qie e hk) (fun d=>?_) (fun _ _ _=>rfl) (fun _ h=>h.elim) some (fun q hq h0=>.inl ⟨q,rfl,?_⟩) (fun _ _ _ _ _ _ h=>by cases h;rfl)
  (fun d B hd=>.inr ⟨(hL hd).2,fun _=>id,fun _=>⟨qa6 (hL hd).1,fun _ _=>id⟩⟩) (fun m b' i' f' hm=>?_) (wad _) rfl rfl
 ·simp only [Cx.new]
  by_cases hb:k=d
  ·subst hb;rw [waw];simp [qbf hk]
  ·rw [wah hb,e.al];exact ⟨fun h=>h.resolve_right (fun h=>hb h.symm),.inl⟩
 ·obtain ⟨d,oo⟩:=q
  cases oo with
  | none =>
   obtain ⟨B,hB⟩:=hq;obtain ⟨h1,h2⟩:=hL hB;simp only [plAt,Cx.new,qa6 h1] at h0 ⊢;exact ⟨⟨B,h2⟩,h0,trivial⟩
  | some j =>
   obtain ⟨t,r,o,hB⟩:=hq;obtain ⟨h1,h2⟩:=hL hB;simp only [plAt,Cx.new,qa6 h1] at h0 ⊢;exact ⟨⟨t,r,o,h2⟩,h0,trivial⟩
 ·rcases qb3 hm with ⟨rfl,h⟩ | ⟨hne,hm⟩
  ·cases h;have hA:=e.alive hb.live;have hbk:b≠m:=fun h=>hkA (h▸hA)
   refine ⟨.inl hA,fun t rows ho hd hi=>?_⟩
   simp only [Cx.new,qas,qa6 hbk];exact ⟨trivial,fun _=>trivial⟩
  ·obtain ⟨h1,h2,h3⟩:=e.vwA hm;have hbk:b'≠k:=fun h=>hkA (h▸h2)
   refine ⟨.inl h2,fun t rows ho hd hi=>?_⟩
   simp only [Cx.new,qa6 hne,qa6 hbk];exact h3 t rows ho (hL hd).2 hi
theorem zeb {k b i L s:Nat} {v:Value} (h:qge (Γ.R b i) L v) (hL:L≤(Γ.R b i).2):Ra w (Γ.new k (Γ.R b i).1 (Γ.R b i).2) (.sl k s 0 L none) v:=by
 obtain ⟨ad,h1,h2,h3⟩:=h;refine qca.2 ⟨.inr rfl,ad,_,h1,by simp [Cx.new,upd],fun hk=>?_,hL⟩
 rw [h3 hk];simp [Cx.new,upd]
theorem qyo (em:Emb Γ S a w) (sp:Spec) (base k:Nat) (f:Bool) {tx:Option Ty} {x:Operand} {x':Od} (hx:cOd tx x=some x') {t:TypeId} {te:Ty} (ht:tyS P t=some (.slice te))
  {o:Oper} (ho:o.op=.load t x)
  (hob:allP (aeff sp base S.T S.H (.loadh k f te x')).ob):Does P Γ S.H w (aeff sp base S.T S.H (.loadh k f te x')) ((execOp a.eval o).run P w):=by
 have r1:=qaj em hx;rw [aeff] at hob ⊢;obtain ⟨p,hob⟩:=qbh hob;have r1:=qah r1 p
 revert hob
 dsimp only [p1]
 generalize (peel (ev S.T x')).2=X at r1;intro hob;have other:∀ (hob:allP (qea S.H (.slice te) X).ob),Does P Γ S.H w (qea S.H (.slice te) X) ((execOp a.eval o).run P w):=fun hob=>qoy em ht ho r1 hob
 cases X with
 | ref b s i o' =>
  simp only at hob ⊢
  cases hg:hget S.H b with
  | none =>
   rw [hg] at hob;have:=other hob;unfold Does at this ⊢;exact this
  | some B =>
   rw [hg] at hob
   cases B with
   | nest t' rows h0 =>
    simp only at hob ⊢;have hb:=qaw hg;have e:=em.heap;obtain ⟨hA,hv⟩:=qc3.1 r1
    by_cases hc:(t'=te∧qay S.H (base+k)=true)∧s=1∧o'=0
    case neg=>rw [if_neg hc] at hob;exact qaa hob
    rw [if_pos hc] at hob ⊢;obtain ⟨⟨rfl,hf⟩,rfl,rfl⟩:=hc;have hk:=qbp hf;have main:i<rows.length→(∀ m,h0≠some (i,m))→∃ v,(execOp a.eval o).run P w=.ok (.value v) w∧Ra w (Γ.new (base+k) (Γ.R b i).1 (Γ.R b i).2) (.sl (base+k) (sz t') 0 (List.length (α:=Den t') (rows.getD i [])) none) v:=fun hi hno=>by
     obtain ⟨n1,c,el,n2,n3,n4⟩:=(e.blk b _ hb).nest_el ((e.blk b _ hb).nest_ne hi);obtain ⟨m1,m2⟩:=n4 i hi;obtain ⟨v,m3,m4⟩:=m2 hno;have hcell:qa1 w (Γ.ν b) (i*1+0) [v]:=by
      intro j u hj
      cases j with
      | zero =>
       simp at hj;subst hj;simp only [World.cell?,n2,Option.isSome_none,wa2,if_false,Nat.add_zero,Nat.mul_one];exact m3
      | succ j=>simp at hj
     refine ⟨v,?_,zeb m4 m1.1⟩;have hl:=qiv (P:=P) (w:=w) ht (b:=Γ.ν b) (off:=i*1+0) (cs:=[v]) rfl hcell;simp only [execOp,ho,hv,Instr.loadAt,Instr.sureAddr,Sem.run_bind,Sem.run_pure,wbp,hl];rfl
    have hav:=e.addView (i:=i) (f:=f) hk ⟨_,_,_,hb⟩
    cases h0 with
    | none =>
     simp only at hob ⊢;obtain ⟨v,g1,g2⟩:=main (allP_one.1 hob) (fun m h=>by cases h)
     exact Does.new g1 rfl hav g2
    | some qm =>
     obtain ⟨q,m'⟩:=qm;simp only at hob ⊢;obtain ⟨h1,h2⟩:=qa0.1 hob;have h2:=allP_one.1 h2;obtain ⟨v,g1,g2⟩:=main h1 (fun m h=>by cases h;exact h2 rfl)
     exact Does.new g1 rfl hav g2
   | _ =>
    have:=other hob;unfold Does at this ⊢;exact this
 | _ =>
  have:=other hob;unfold Does at this ⊢;exact this
theorem q46 {I I':Nat→Prop} {p:Nat×Nat} {t:Ty} {r:List (Den t)} {v:Value} (h:qfh w I p t r) (hh:qge p r.length v) (hI:∀ n,I n→I' n) (hp:p.2≠0→I' p.1):RepC w I' (.slice t) r [v]:=by
 obtain ⟨h1,h2⟩:=h;obtain ⟨ad,rfl,g2,g3⟩:=hh;simp only [RepC];refine ⟨ad,p.2,rfl,h1,g2,fun i x hx=>?_⟩
 have hx:r[i]?=some x:=hx;have hk:p.2≠0:=by
  have:=(List.getElem?_eq_some_iff.1 hx).1;omega
 obtain ⟨c,el,k1,k2,k3⟩:=h2 hk;obtain ⟨cs,m1,m2⟩:=k3 i x hx;refine ⟨p.1,0,cs,g3 hk,hp hk,RepC.mono hI (fun _ _=>rfl) t x cs m1,fun j u hj=>?_⟩
 simp only [World.cell?,k1,Option.isSome_none,wa2,if_false,wa7];exact m2 j u hj
theorem qsh {b:Nat} {t:Ty} {rows:List (List (Den t))} {I':Nat→Prop} (h:RepB w Γ b (.nest t rows none)) (hI:∀ n,Γ.I n→I' n) (hO:∀ n,Γ.O b n→I' n) {i:Nat} {r:List (Den t)} (hr:rows[i]?=some r) :
  ∃ v,RepC w I' (.slice t) r [v]∧qa1 w (Γ.ν b) i [v]:=by
 have hi:i<rows.length:=(List.getElem?_eq_some_iff.1 hr).1;obtain ⟨n1,c,el,n2,n3,n4⟩:=h.nest_el (h.nest_ne hi);obtain ⟨m1,m2⟩:=n4 i hi;obtain ⟨v,m3,m4⟩:=m2 fun m h=>by cases h
 rw [qv2 hr] at m1 m4;refine ⟨v,q46 m1 m4 hI fun hk=>hO _ ⟨i,hk,rfl⟩,fun j u hj=>?_⟩
 cases j with
 | zero =>
  simp at hj;subst hj;simp only [World.cell?,n2,Option.isSome_none,wa2,if_false,Nat.add_zero];exact m3
 | succ j=>simp at hj
theorem EmbH.weak (e:EmbH Γ H w) {b:Nat} {B B':Blk} (hb:H[b]?=some (.live B)) (hB:RepB w Γ b B') (hnn:∀ t r o,B'=.nest t r o→∃ t r0 o,B=.nest t r0 o∧r.length≤r0.length) :
  EmbH Γ (H.set b (.live B')) w∧Ext Γ H w Γ (H.set b (.live B')) w:=by
 have hget:∀ {d D},(H.set b (.live B'))[d]?=some (.live D)→(d=b∧D=B')∨(d≠b∧H[d]?=some (.live D)):=fun {d D} h=>by
  rcases qav h with ⟨h1,h2⟩ | h
  ·cases h2;exact .inl ⟨h1,rfl⟩
  ·exact .inr h
 refine e.stepP (fun _=>False) rfl (fun _ h=>⟨h,rfl,rfl⟩) (fun d=>by rw [e.al];exact qjp hb (by simp) d) (fun _ _ _=>rfl) (fun _ h=>h.elim) some (fun q hq h0=>.inl ⟨q,rfl,?_,h0,rfl⟩) (fun _ _ _ _ _ _ h=>by cases h;rfl)
  (fun d D hd=>?_) (e.vw_keep (fun _ h=>⟨h,rfl,rfl⟩) (fun m' b' i' f' hm'=>?_) fun d t2 rows2 ho2 _ hd=>⟨rfl,?_⟩) (wad _) rfl rfl
 ·obtain ⟨d,oo⟩:=q
  cases oo with
  | none =>
   obtain ⟨D,h⟩:=hq
   rcases hget h with ⟨rfl,_⟩ | ⟨_,h⟩
   ·exact ⟨_,hb⟩
   ·exact ⟨_,h⟩
  | some j =>
   obtain ⟨t2,r2,o2,h⟩:=hq
   rcases hget h with ⟨rfl,h5⟩ | ⟨_,h⟩
   ·obtain ⟨t3,r3,o3,rfl,_⟩:=hnn _ _ _ h5.symm;exact ⟨_,_,_,hb⟩
   ·exact ⟨_,_,_,h⟩
 ·rcases hget hd with ⟨rfl,rfl⟩ | ⟨_,h⟩
  ·exact .inl hB
  ·exact .inr ⟨h,fun _=>id,fun _=>⟨rfl,fun _ _=>id⟩⟩
 ·rcases qb3 hm' with ⟨_,h⟩ | ⟨_,h⟩
  ·cases h
  ·exact h
 ·rcases hget hd with ⟨rfl,h5⟩ | ⟨_,h⟩
  ·obtain ⟨t3,r3,o3,rfl,hl⟩:=hnn _ _ _ h5.symm;exact ⟨_,_,_,hb,hl⟩
  ·exact ⟨_,_,_,h,wad _⟩
theorem RepB.arr_take {b n:Nat} {t:Ty} {xs:List (Den t)} (h:RepB w Γ b (.arr t xs true)):RepB w Γ b (.arr t (xs.take n) true):=by
 simp only [RepB] at h ⊢;obtain ⟨h1,_,h2⟩:=h;refine ⟨by rw [wan];omega,(fun h=>by cases h),fun hk=>?_⟩
 obtain ⟨c,el,g1,g2,g3⟩:=h2 hk;refine ⟨c,el,g1,g2,fun i x hx=>?_⟩
 rw [wat] at hx;split at hx
 ·exact g3 i x hx
 ·cases hx
theorem RepB.nest_take {b n:Nat} {t:Ty} {rows:List (List (Den t))} {ho:Option (Nat×Nat)} (h:RepB w Γ b (.nest t rows ho)):RepB w Γ b (.nest t (rows.take n) ho):=by
 simp only [RepB] at h ⊢;obtain ⟨h1,h2⟩:=h;refine ⟨by rw [wan];omega,fun hk=>?_⟩
 obtain ⟨c,el,g1,g2,g3⟩:=h2 hk;refine ⟨c,el,g1,g2,fun i x hx=>?_⟩
 rw [wat] at hx;split at hx
 ·exact g3 i x hx
 ·cases hx
theorem EmbH.rowOut (e:EmbH Γ H w) {m n p:Nat} {t:Ty} {rows:List (List (Den t))} (hn:H[n]?=some (.live (.nest t rows none))) (hm:H[m]?=some .dead) (hnv:∀ (m i:Nat) (f:Bool),H[m]?≠some (.view n i f))
  (hp:p<rows.length) (h1:Γ.κ m=(Γ.R n p).2) (h2:Γ.κ m≠0→Γ.ν m=(Γ.R n p).1) :
  EmbH { Γ with R:=upd Γ.R n (upd (Γ.R n) p (0,0)) } ((H.set n (.live (.nest t (rows.set p []) (some (p,m))))).set m (.live (.arr t (rows.getD p []) true))) w ∧
  Ext Γ H w { Γ with R:=upd Γ.R n (upd (Γ.R n) p (0,0)) } ((H.set n (.live (.nest t (rows.set p []) (some (p,m))))).set m (.live (.arr t (rows.getD p []) true))) w:=by
 have hN:Nest H n:=⟨_,_,_,hn⟩;have hmn:m≠n:=fun h=>by rw [h,hn] at hm;cases hm
 have hB:=e.blk n _ hn;have hget:∀ {d B},((H.set n (.live (.nest t (rows.set p []) (some (p,m))))).set m (.live (.arr t (rows.getD p []) true)))[d]?=some (.live B)→(d=m∧B=.arr t (rows.getD p []) true)∨(d≠m∧d=n∧B=.nest t (rows.set p []) (some (p,m)))∨(d≠m∧d≠n∧H[d]?=some (.live B)):=fun {d B} h=>by
  rcases qav h with ⟨h1,h2⟩ | ⟨h1,h⟩
  ·cases h2;exact .inl ⟨h1,rfl⟩
  ·rcases qav h with ⟨h2,h3⟩ | ⟨h2,h⟩
   ·cases h3;exact .inr (.inl ⟨h1,h2,rfl⟩)
   ·exact .inr (.inr ⟨h1,h2,h⟩)
 refine e.stepP (fun _=>False) rfl (fun _ h=>⟨h,rfl,rfl⟩) (fun d=>?_) (fun _ _ _=>rfl) (fun _ h=>h.elim)
  (fun q=>if q=(m,none) then some (n,some p) else some q) (fun q hq h0=>.inl ?_) (fun q q' hq hq' h0 h0' heq=>?_) (fun d B hd=>?_) (fun m' b' i' f' hm'=>?_) (wad _) rfl rfl
 ·rw [e.al];exact (qff hn (by simp) (by simp) d).trans (qff (by rw [wah (fun h=>hmn h.symm)];exact hm) (by simp) (by simp) d)
 ·by_cases hqm:q=(m,none)
  ·subst hqm;simp only [plAt] at h0;exact ⟨(n,some p),if_pos rfl,hN,by simp only [plAt];rw [← h1];exact h0,(h2 h0).symm⟩
  ·refine ⟨q,if_neg hqm,?_⟩;obtain ⟨d,oo⟩:=q
   cases oo with
   | none =>
    obtain ⟨B,hB⟩:=hq;have hdm:d≠m:=fun h=>hqm (by rw [h])
    rcases hget hB with ⟨h,_⟩ | ⟨_,rfl,_⟩ | ⟨_,_,h⟩
    ·exact absurd h hdm
    ·exact ⟨hN.live,h0,rfl⟩
    ·exact ⟨⟨B,h⟩,h0,rfl⟩
   | some j =>
    obtain ⟨t3,r3,o3,hB⟩:=hq
    rcases hget hB with ⟨_,h⟩ | ⟨_,rfl,_⟩ | ⟨_,h3,h⟩
    ·cases h
    ·rw [qok] at h0 ⊢
     by_cases hj:j=p
     ·subst hj;rw [qas] at h0;exact absurd rfl h0
     ·rw [qa6 hj] at h0 ⊢;exact ⟨hN,h0,rfl⟩
    ·rw [qr8 h3] at h0 ⊢;exact ⟨⟨_,_,_,h⟩,h0,rfl⟩
 ·have hnp:∀ {q},PlOk ((H.set n (.live (.nest t (rows.set p []) (some (p,m))))).set m (.live (.arr t (rows.getD p []) true))) q→(plAt { Γ with R:=upd Γ.R n (upd (Γ.R n) p (0,0)) } q).2≠0→q≠(n,some p):=fun {q} _ h0 h=>by
   subst h;rw [qok,qas] at h0;exact h0 rfl
  by_cases h:q=(m,none)<;>by_cases h':q'=(m,none)
  ·rw [h,h']
  ·rw [if_pos h,if_neg h'] at heq;exact absurd (Option.some.inj heq).symm (hnp hq' h0')
  ·rw [if_neg h,if_pos h'] at heq;exact absurd (Option.some.inj heq) (hnp hq h0)
  ·rw [if_neg h,if_neg h'] at heq;exact Option.some.inj heq
 ·rcases hget hd with ⟨rfl,rfl⟩ | ⟨_,rfl,rfl⟩ | ⟨h3,h4,h⟩
  ·exact .inl ((hB.nest_row hp).rep h1 h2)
  ·have hk:=hB.nest_ne hp;obtain ⟨n1,c,el,n2,n3,n4⟩:=hB.nest_el hk;refine .inl (RepB.nest_of (c:=c) (el:=el) (by simpa using n1) (fun _=>⟨n2,n3⟩) fun j hj=>?_)
   rw [waj] at hj;rw [qd1 hp];simp only [qas]
   by_cases hjp:j=p
   ·subst hjp;rw [if_pos rfl,qas];exact ⟨⟨wad _,fun h=>absurd rfl h⟩,fun h=>absurd rfl (h m)⟩
   ·rw [if_neg (fun h=>hjp h.symm),qa6 hjp]
    obtain ⟨m1,m2⟩:=n4 j hj;exact ⟨m1,fun _=>m2 fun _ h=>by cases h⟩
  ·exact .inr ⟨h,fun _=>id,fun _=>⟨qa6 h4,fun _ _=>id⟩⟩
 ·rcases qb3 hm' with ⟨_,h⟩ | ⟨_,h⟩
  ·cases h
  ·rcases qb3 h with ⟨_,h⟩ | ⟨_,h⟩
   ·cases h
   ·obtain ⟨_,v2,v3⟩:=e.vwA h;have hbn:b'≠n:=fun hb=>hnv m' i' f' (hb▸h)
    refine ⟨v2,fun t3 r3 o3 hd hi=>?_⟩
    simp only [qa6 hbn]
    rcases hget hd with ⟨_,h⟩ | ⟨_,h,_⟩ | ⟨_,_,h⟩
    ·cases h
    ·exact absurd h hbn
    ·exact v3 t3 r3 o3 h hi
theorem EmbH.rowIn (e:EmbH Γ H w) {k m n p:Nat} {t:Ty} {rows:List (List (Den t))} {xs:List (Den t)} {opn:Bool} (hn:H[n]?=some (.live (.nest t rows (some (p,m))))) (hk:H[k]?=some (.live (.arr t xs opn))) (hnv:∀ (m i:Nat) (f:Bool),H[m]?≠some (.view n i f))
  (hp:p<rows.length) :
  EmbH { Γ with R:=upd Γ.R n (upd (Γ.R n) p (Γ.ν k,Γ.κ k)) } ((H.set n (.live (.nest t (rows.set p xs) (some (p,k))))).set k (.view n p false)) w ∧
  Ext Γ H w { Γ with R:=upd Γ.R n (upd (Γ.R n) p (Γ.ν k,Γ.κ k)) } ((H.set n (.live (.nest t (rows.set p xs) (some (p,k))))).set k (.view n p false)) w:=by
 have hN:Nest H n:=⟨_,_,_,hn⟩;have hkn:k≠n:=fun h=>by rw [h,hn] at hk;cases hk
 have hB:=e.blk n _ hn;have hget:∀ {d B},((H.set n (.live (.nest t (rows.set p xs) (some (p,k))))).set k (.view n p false))[d]?=some (.live B)→(d≠k∧d=n∧B=.nest t (rows.set p xs) (some (p,k)))∨(d≠k∧d≠n∧H[d]?=some (.live B)):=fun {d B} h=>by
  rcases qav h with ⟨_,h2⟩ | ⟨h1,h⟩
  ·cases h2
  ·rcases qav h with ⟨h2,h3⟩ | ⟨h2,h⟩
   ·cases h3;exact .inl ⟨h1,h2,rfl⟩
   ·exact .inr ⟨h1,h2,h⟩
 refine e.stepP (fun _=>False) rfl (fun _ h=>⟨h,rfl,rfl⟩) (fun d=>?_) (fun _ _ _=>rfl) (fun _ h=>h.elim)
  (fun q=>if q=(n,some p) then some (k,none) else some q) (fun q hq h0=>.inl ?_) (fun q q' hq hq' h0 h0' heq=>?_) (fun d B hd=>?_) (fun m' b' i' f' hm'=>?_) (wad _) rfl rfl
 ·rw [e.al];exact (qff hn (by simp) (by simp) d).trans (qff (by rw [wah (fun h=>hkn h.symm)];exact hk) (by simp) (by simp) d)
 ·by_cases hqm:q=(n,some p)
  ·subst hqm;rw [qok,qas] at h0 ⊢;exact ⟨(k,none),if_pos rfl,⟨_,hk⟩,h0,rfl⟩
  ·refine ⟨q,if_neg hqm,?_⟩;obtain ⟨d,oo⟩:=q
   cases oo with
   | none =>
    obtain ⟨B,hB⟩:=hq
    rcases hget hB with ⟨_,rfl,_⟩ | ⟨_,_,h⟩
    ·exact ⟨hN.live,h0,rfl⟩
    ·exact ⟨⟨B,h⟩,h0,rfl⟩
   | some j =>
    obtain ⟨t3,r3,o3,hB⟩:=hq
    rcases hget hB with ⟨_,rfl,_⟩ | ⟨_,h3,h⟩
    ·have hj:j≠p:=fun h=>hqm (by rw [h])
     rw [qok,qa6 hj] at h0 ⊢;exact ⟨hN,h0,rfl⟩
    ·rw [qr8 h3] at h0 ⊢;exact ⟨⟨_,_,_,h⟩,h0,rfl⟩
 ·have hnp:∀ {q},PlOk ((H.set n (.live (.nest t (rows.set p xs) (some (p,k))))).set k (.view n p false)) q→q≠(k,none):=fun {q} hq h=>by
   subst h;obtain ⟨B,hB⟩:=hq
   rcases hget hB with ⟨h,_⟩ | ⟨h,_⟩<;>exact h rfl
  by_cases h:q=(n,some p)<;>by_cases h':q'=(n,some p)
  ·rw [h,h']
  ·rw [if_pos h,if_neg h'] at heq;exact absurd (Option.some.inj heq).symm (hnp hq')
  ·rw [if_neg h,if_pos h'] at heq;exact absurd (Option.some.inj heq) (hnp hq)
  ·rw [if_neg h,if_neg h'] at heq;exact Option.some.inj heq
 ·rcases hget hd with ⟨_,rfl,rfl⟩ | ⟨h3,h4,h⟩
  ·have hk0:=hB.nest_ne hp;obtain ⟨n1,c,el,n2,n3,n4⟩:=hB.nest_el hk0;refine .inl (RepB.nest_of (c:=c) (el:=el) (by simpa using n1) (fun _=>⟨n2,n3⟩) fun j hj=>?_)
   rw [waj] at hj;rw [qd1 hp];simp only [qas]
   by_cases hjp:j=p
   ·subst hjp;rw [if_pos rfl,qas];exact ⟨(e.blk k _ hk).row,fun h=>absurd rfl (h k)⟩
   ·rw [if_neg (fun h=>hjp h.symm),qa6 hjp]
    obtain ⟨m1,m2⟩:=n4 j hj;exact ⟨m1,fun _=>m2 fun _ h=>by cases h;exact hjp rfl⟩
  ·exact .inr ⟨h,fun _=>id,fun _=>⟨qa6 h4,fun _ _=>id⟩⟩
 ·rcases qb3 hm' with ⟨rfl,h⟩ | ⟨_,h⟩
  ·cases h;refine ⟨e.alive hN.live,fun t3 r3 o3 hd hi=>?_⟩
   simp only [qas];exact ⟨trivial,fun _=>trivial⟩
  ·rcases qb3 h with ⟨_,h⟩ | ⟨_,h⟩
   ·cases h
   ·obtain ⟨_,v2,v3⟩:=e.vwA h;have hbn:b'≠n:=fun hb=>hnv m' i' f' (hb▸h)
    refine ⟨v2,fun t3 r3 o3 hd hi=>?_⟩
    simp only [qa6 hbn]
    rcases hget hd with ⟨_,h,_⟩ | ⟨_,_,h⟩
    ·exact absurd h hbn
    ·exact v3 t3 r3 o3 h hi
def newσ (nw b n len:Nat) (s0:Option (Nat×Option Nat)):Nat×Option Nat→Option (Nat×Option Nat)
 | (d,none)=>if d=nw then s0 else some (d,none)
 | (d,some j)=>if d=nw then (if j<len then some (b,some j) else some (n,some 0)) else some (d,some j)
theorem EmbH.nestNew (e:EmbH Γ H w) {nw n b len N C:Nat} (hk:H[nw]?=some .free) {t:Ty} {r:List (Den t)} (hn:H[n]?=some (.live (.nest t [r] none))) {rows:List (List (Den t))} (hlen:len≤rows.length)
  (hb:len≠0→H[b]?=some (.live (.nest t rows none))∧b≠n) {s0:Option (Nat×Option Nat)} (hX:∀ k,(s0=some (b,none)→k≠Γ.ν b)→k<w.heap.size→w'.heap[k]?=w.heap[k]?)
  (hN:(s0=none∧N=w.heap.size∧N<w'.heap.size)∨(s0=some (b,none)∧N=Γ.ν b∧Γ.κ b≠0∧Live H b)) (hC:len+1≤C)
  (hH:∀ d B,H'[d]?=some (.live B)→(d=nw∧B=.nest t (rows.take len++[r]) none)∨(d≠nw∧d≠n∧((s0=some (b,none)∨len≠0)→d≠b)∧H[d]?=some (.live B)))
  (hV:∀ (m b i:Nat) (f:Bool),H'[m]?=some (.view b i f)→H[m]?=some (.view b i f))
  (hA:∀ d:Nat,(Γ.A d∨d=nw)↔∃ h:Hs,H'[d]?=some h∧h≠.free)
  {c:Array Value} {el:TypeId} (hc:w'.heap[N]?=some (.cells c el (0,0))) (hcs:c.size=C) (hold:∀ i,i<len→∃ v,c[i]?=some v∧qge (Γ.R b i) (rows.getD i []).length v) (hnew:∃ v,c[len]?=some v∧qge (Γ.R n 0) r.length v)
  (hs:w.heap.size≤w'.heap.size) (ho:w'.os=w.os) (hout:w'.output=w.output) :
  ∃ Γ':Cx,(Γ'.A nw∧Γ'.ν nw=N∧Γ'.κ nw=C)∧EmbH Γ' H' w'∧Ext Γ H w Γ' H' w':=by
 have hkA:=qdw e hk;have hnk:n≠nw:=fun h=>by rw [h,hk] at hn;cases hn
 have hNn:Nest H n:=⟨_,_,_,hn⟩;have hNb:len≠0→Nest H b:=fun h=>⟨_,_,_,(hb h).1⟩
 have hrl:(rows.take len).length=len:=by rw [wan];omega
 have hal:∀ d,Γ.A d→({ Γ.new nw N C with R:=upd Γ.R nw (fun i=>if i<len then Γ.R b i else if i=len then Γ.R n 0 else (0,0)) }:Cx).A d∧({ Γ.new nw N C with R:=upd Γ.R nw (fun i=>if i<len then Γ.R b i else if i=len then Γ.R n 0 else (0,0)) }:Cx).ν d=Γ.ν d∧({ Γ.new nw N C with R:=upd Γ.R nw (fun i=>if i<len then Γ.R b i else if i=len then Γ.R n 0 else (0,0)) }:Cx).κ d=Γ.κ d:=qie e hk
 refine ⟨{ Γ.new nw N C with R:=upd Γ.R nw (fun i=>if i<len then Γ.R b i else if i=len then Γ.R n 0 else (0,0)) },⟨Or.inr rfl,by simp [Cx.new,upd],by simp [Cx.new,upd]⟩,?_⟩
 have hXk:∀ {k},k<w.heap.size→(s0=some (b,none)→k≠Γ.ν b)→w'.heap[k]?=w.heap[k]?:=fun {k} h1 h2=>hX k h2 h1
 have hOld:∀ {q:Nat×Option Nat},PlOk H q→(plAt Γ q).2≠0→q≠(b,none)→w'.heap[(plAt Γ q).1]?=w.heap[(plAt Γ q).1]?:=fun {q} hq h0 hne=>by
  refine hXk (e.wr_imm (e.pl_wr hq h0)).2 fun hs0 he=>?_
  rcases hN with ⟨h,_⟩ | ⟨_,_,g1,g2⟩
  ·rw [h] at hs0;cases hs0
  ·exact hne (e.uniq hq (q:=(b,none)) g2 h0 g1 he)
 have hI:∀ k,Γ.I k→w'.heap[k]?=w.heap[k]?:=fun k hk'=>hXk (e.old k hk') fun hs0 he=>by
  rcases hN with ⟨h,_⟩ | ⟨_,_,g1,g2⟩
  ·rw [h] at hs0;cases hs0
  ·exact e.imm b g2 g1 (he▸hk')
 refine e.stepP (fun k=>s0=some (b,none)∧k=Γ.ν b) rfl hal hA (fun k hk' hx=>hXk hk' fun h1 h2=>hx ⟨h1,h2⟩) (fun k hx=>?_) (newσ nw b n len s0) (fun q hq h0=>?_) (fun q q' hq hq' h0 h0' heq=>?_) (fun d B hd=>?_) (e.vw_keep hal hV fun d t3 rows3 ho3 hdA hd=>?_) hs ho hout
 ·rcases hN with ⟨h,_⟩ | ⟨_,_,g1,g2⟩
  ·rw [h] at hx;cases hx.1
  ·exact .inl (.inl ⟨b,g2,g1,hx.2.symm⟩)
 ·obtain ⟨d,oo⟩:=q
  by_cases hd:d=nw
  ·subst hd
   cases oo with
   | none =>
    simp only [plAt,Cx.new,qas] at h0 ⊢
    rcases hN with ⟨h,g1,g2⟩ | ⟨h,g1,g2,g3⟩
    ·exact .inr ⟨by simp [newσ,h],by omega,g2⟩
    ·exact .inl ⟨(b,none),by simp [newσ,h],g3,g2,g1.symm⟩
   | some j =>
    simp only [plAt,qas] at h0 ⊢
    by_cases hj:j<len
    ·rw [if_pos hj] at h0 ⊢;exact .inl ⟨(b,some j),by simp [newσ,hj],hNb (by omega),h0,rfl⟩
    ·rw [if_neg hj] at h0 ⊢
     by_cases hj':j=len
     ·rw [if_pos hj'] at h0 ⊢;exact .inl ⟨(n,some 0),by simp [newσ,hj],hNn,h0,rfl⟩
     ·rw [if_neg hj'] at h0;exact absurd rfl h0
  ·refine .inl ⟨(d,oo),by cases oo<;>simp [newσ,hd],?_⟩
   cases oo with
   | none =>
    obtain ⟨B,hB⟩:=hq
    rcases hH d B hB with ⟨h,_⟩ | ⟨_,_,_,h⟩
    ·exact absurd h hd
    ·simp only [plAt,Cx.new,qa6 hd] at h0 ⊢;exact ⟨⟨B,h⟩,h0,trivial⟩
   | some j =>
    obtain ⟨t3,r3,o3,hB⟩:=hq
    rcases hH d _ hB with ⟨h,_⟩ | ⟨_,_,_,h⟩
    ·exact absurd h hd
    ·simp only [plAt,qa6 hd] at h0 ⊢;exact ⟨⟨_,_,_,h⟩,h0,trivial⟩
 ·-- no two of the same place
  obtain ⟨d,oo⟩:=q;obtain ⟨d',oo'⟩:=q';have hlv:∀ {d:Nat} {oo:Option Nat},PlOk H' (d,oo)→d≠nw→d≠n∧((s0=some (b,none)∨len≠0)→d≠b):=fun {d oo} hq hd=>by
   cases oo with
   | none =>
    obtain ⟨B,hB⟩:=hq
    rcases hH d B hB with ⟨h,_⟩ | ⟨_,h1,h2,_⟩
    ·exact absurd h hd
    ·exact ⟨h1,h2⟩
   | some j =>
    obtain ⟨t3,r3,o3,hB⟩:=hq
    rcases hH d _ hB with ⟨h,_⟩ | ⟨_,h1,h2,_⟩
    ·exact absurd h hd
    ·exact ⟨h1,h2⟩
  have cross:∀ {oo d' oo'},PlOk H' (d',oo')→d'≠nw→(∀ j,oo=some j→(if j<len then Γ.R b j else if j=len then Γ.R n 0 else (0,0):Nat×Nat).2≠0)→newσ nw b n len s0 (nw,oo)=newσ nw b n len s0 (d',oo')→False:=fun {oo d' oo'} hq hd hz heq=>by
   have hr:newσ nw b n len s0 (d',oo')=some (d',oo'):=by cases oo'<;>simp [newσ,hd]
   rw [hr] at heq;obtain ⟨h1,h2⟩:=hlv hq hd
   cases oo with
   | none =>
    simp only [newσ,if_true] at heq
    rcases hN with ⟨h,_⟩ | ⟨h,_⟩
    ·rw [h] at heq;cases heq
    ·rw [h] at heq;cases heq;exact h2 (.inl h) rfl
   | some j =>
    simp only [newσ,if_true] at heq
    by_cases hj:j<len
    ·rw [if_pos hj] at heq;cases heq;exact h2 (.inr (by omega)) rfl
    ·rw [if_neg hj] at heq;cases heq;exact h1 rfl
  have hz:∀ {oo:Option Nat},(plAt { Γ.new nw N C with R:=upd Γ.R nw (fun i=>if i<len then Γ.R b i else if i=len then Γ.R n 0 else (0,0)) } (nw,oo)).2≠0→∀ j,oo=some j→(if j<len then Γ.R b j else if j=len then Γ.R n 0 else (0,0):Nat×Nat).2≠0:=fun {oo} h j hj=>by
   subst hj;simpa only [plAt,qas] using h
  by_cases hd:d=nw<;>by_cases hd':d'=nw
  ·subst hd;subst hd'
   cases oo with
   | none=>cases oo' with
    | none=>rfl
    | some j =>
     simp only [newσ,if_true] at heq
     rcases hN with ⟨h,_⟩ | ⟨h,_⟩
     ·rw [h] at heq;split at heq<;>cases heq
     ·rw [h] at heq;split at heq<;>cases heq
   | some j=>cases oo' with
    | none =>
     simp only [newσ,if_true] at heq
     rcases hN with ⟨h,_⟩ | ⟨h,_⟩
     ·rw [h] at heq;split at heq<;>cases heq
     ·rw [h] at heq;split at heq<;>cases heq
    | some j' =>
     have z1:=hz h0 j rfl;have z2:=hz h0' j' rfl;simp only [newσ,if_true] at heq
     by_cases hj:j<len<;>by_cases hj':j'<len
     ·rw [if_pos hj,if_pos hj'] at heq;cases heq;rfl
     ·rw [if_pos hj,if_neg hj'] at heq;cases heq;exact absurd rfl (hb (by omega)).2
     ·rw [if_neg hj,if_pos hj'] at heq;cases heq;exact absurd rfl (hb (by omega)).2
     ·have e1:j=len:=by
       apply Classical.byContradiction;intro h;rw [if_neg hj,if_neg h] at z1;exact z1 rfl
      have e2:j'=len:=by
       apply Classical.byContradiction;intro h;rw [if_neg hj',if_neg h] at z2;exact z2 rfl
      rw [e1,e2]
  ·subst hd;exact (cross hq' hd' (hz h0) heq).elim
  ·subst hd';exact (cross hq hd (hz h0') heq.symm).elim
  ·have r1:newσ nw b n len s0 (d,oo)=some (d,oo):=by cases oo<;>simp [newσ,hd]
   have r2:newσ nw b n len s0 (d',oo')=some (d',oo'):=by cases oo'<;>simp [newσ,hd']
   rw [r1,r2] at heq;exact Option.some.inj heq
 ·rcases hH d B hd with ⟨rfl,rfl⟩ | ⟨h1,h2,h3,h⟩
  ·refine .inl (RepB.nest_of (c:=c) (el:=el) (by simp [Cx.new,upd,hrl];omega) (fun _=>⟨by simpa [Cx.new,upd] using hc,by simpa [Cx.new,upd] using hcs⟩) fun j hj=>?_)
   simp only [wae,hrl,wa8] at hj;simp only [qas]
   by_cases hjl:j<len
   ·have hrow:(rows.take len++[r]).getD j []=rows.getD j []:=by
     rw [waa,waf (by omega),wat,if_pos hjl,waa]
    rw [if_pos hjl,hrow];have hb':=(hb (by omega)).1
    have:=(e.blk b _ hb').nest_row (i:=j) (by omega)
    refine ⟨this.mono (fun _ h=>h) hI fun hz=>hOld (q:=(b,some j)) ⟨_,_,_,hb'⟩ hz (by simp),fun _=>hold j hjl⟩
   ·have hjl':j=len:=by omega
    subst hjl';have hrow:(rows.take j++[r]).getD j []=r:=by
     rw [waa,wag (by omega),hrl];simp
    rw [if_neg (by omega),if_pos rfl,hrow]
    have:=(e.blk n _ hn).nest_row (i:=0) (by simp)
    have this:qfh w Γ.I (Γ.R n 0) t r:=by simpa using this
    refine ⟨this.mono (fun _ h=>h) hI fun hz=>hOld (q:=(n,some 0)) hNn hz (by simp),fun _=>hnew⟩
  ·refine .inr ⟨h,fun hk' hx=>?_,fun hd'=>⟨qa6 h1,fun k hk' hx=>?_⟩⟩
   ·rcases hN with ⟨g,_⟩ | ⟨_,_,g1,g2⟩
    ·rw [g] at hx;cases hx.1
    ·exact h3 (.inl hx.1) (e.inj d b ⟨_,h⟩ g2 hk' g1 hx.2)
   ·rcases hN with ⟨g,_⟩ | ⟨_,_,g1,g2⟩
    ·rw [g] at hx;cases hx.1
    ·exact e.rows.main d b k hd' g2 g1 hk' hx.2.symm
 ·have hne:d≠nw:=fun h=>hkA (h▸hdA)
  rcases hH d _ hd with ⟨h,_⟩ | ⟨_,_,_,h⟩
  ·exact absurd h hne
  ·exact ⟨qa6 hne,t3,rows3,ho3,h,wad _⟩
theorem EmbH.fresh (e:EmbH Γ H w) {k N C:Nat} {B:Blk} (hk:H[k]?=some .free) (hN:C≠0→w.heap.size≤N∧N<w'.heap.size)
  (hold:∀ n,n<w.heap.size→w'.heap[n]?=w.heap[n]?) (hs:w.heap.size≤w'.heap.size) (ho:w'.os=w.os) (hout:w'.output=w.output)
  (hB:RepB w' (Γ.new k N C) k B) (hnn:∀ t r o,B≠.nest t r o) :
  EmbH (Γ.new k N C) (H.set k (.live B)) w'∧Ext Γ H w (Γ.new k N C) (H.set k (.live B)) w':=by
 have hkA:=qdw e hk;have hget:∀ {d D},(H.set k (.live B))[d]?=some (.live D)→(d=k∧D=B)∨(d≠k∧H[d]?=some (.live D)):=fun {d D} h=>by
  rcases qav h with ⟨h1,h2⟩ | h
  ·cases h2;exact .inl ⟨h1,rfl⟩
  ·exact .inr h
 refine e.stepP (fun _=>False) rfl (qie e hk) (q7b e hk) (fun n hn _=>hold n hn) (fun _ h=>h.elim) (fun q=>if q=(k,none) then none else some q) (fun q hq h0=>?_) (fun q q' hq hq' h0 h0' heq=>?_)
  (fun d D hd=>?_) (e.vw_keep (qie e hk) (fun m b i f hm=>?_) fun d t rows ho hA hd=>?_) hs ho hout
 ·by_cases hqk:q=(k,none)
  ·subst hqk;simp only [plAt,Cx.new,qas] at h0 ⊢;exact .inr ⟨by simp,hN h0⟩
  ·refine .inl ⟨q,if_neg hqk,?_⟩;obtain ⟨d,oo⟩:=q
   cases oo with
   | none =>
    obtain ⟨D,hD⟩:=hq;have hd:d≠k:=fun h=>hqk (by rw [h])
    rcases hget hD with ⟨h,_⟩ | ⟨_,h⟩
    ·exact absurd h hd
    ·simp only [plAt,Cx.new,qa6 hd] at h0 ⊢;exact ⟨⟨D,h⟩,h0,trivial⟩
   | some j =>
    obtain ⟨t,r,o,hD⟩:=hq
    rcases hget hD with ⟨_,h⟩ | ⟨hd,h⟩
    ·exact absurd h.symm (hnn t r o)
    ·simp only [plAt,Cx.new,qa6 hd] at h0 ⊢;exact ⟨⟨t,r,o,h⟩,h0,trivial⟩
 ·by_cases h:q=(k,none)<;>by_cases h':q'=(k,none)
  ·rw [h,h']
  ·rw [if_pos h,if_neg h'] at heq;cases heq
  ·rw [if_neg h,if_pos h'] at heq;cases heq
  ·rw [if_neg h,if_neg h'] at heq;exact Option.some.inj heq
 ·rcases hget hd with ⟨rfl,rfl⟩ | ⟨hne,h⟩
  ·exact .inl hB
  ·exact .inr ⟨h,fun _=>id,fun _=>⟨qa6 hne,fun _ _=>id⟩⟩
 ·rcases qb3 hm with ⟨_,h⟩ | ⟨_,h⟩
  ·cases h
  ·exact h
 ·have hne:d≠k:=fun h=>hkA (h▸hA)
  rcases hget hd with ⟨h,_⟩ | ⟨_,h⟩
  ·exact absurd h hne
  ·exact ⟨qa6 hne,t,rows,ho,h,wad _⟩
end
theorem qsm (off:Nat):∀ (L:List Value) (k:Nat) (cells:Array Value),off+k+L.length≤cells.size →
  (L.zipIdx k).foldl (fun cs (p:Value×Nat)=>cs.setIfInBounds (off+p.2) p.1) cells=qbb cells (off+k) L
 | [],k,cells,_=>by simp [qbb]
 | v::L,k,cells,h=>by
  simp only [wa5] at h;simp only [List.zipIdx_cons,wbn];rw [qsm off L (k+1) _ (by simp;omega)]
  apply Array.ext_getElem?;intro i;rw [qa2 (by simp;omega),qa2 (by simp;omega)]
  simp only [wa5]
  by_cases h1:i=off+k
  ·subst h1;rw [if_neg (by omega),if_pos (by omega),Nat.sub_self]
   have:off+k<cells.size:=by omega
   simp [this]
  ·by_cases h2:off+(k+1)≤i∧i<off+(k+1)+L.length
   ·rw [if_pos h2,if_pos (by omega),show i-(off+k)=(i-(off+(k+1)))+1 by omega,wa4]
   ·rw [if_neg h2,if_neg (by omega),Array.getElem?_setIfInBounds_ne (fun h=>h1 h.symm)]
theorem qko {off:Nat} {v:Value} {cells:Array Value} (h:off+v.cells.size≤cells.size) :
  v.cells.zipIdx.foldl (fun cs (c,j)=>cs.setIfInBounds (off+j) c) cells=qbb cells off v.cells.toList:=by
 have:=qsm off v.cells.toList 0 cells (by simpa using h)
 rw [← Array.foldl_toList];simpa using this
section
variable {P:Program} {Γ:Cx} {H:List Hs} {w:World} {S:St} {a:Act}
theorem Fa.setMany {z cs:List AV} {c:Array Value} {L:List Value} {off:Nat} (h:Fa w Γ z c.toList) (hf:Fa w Γ cs L) (hfit:off+cs.length≤z.length):Fa w Γ (setMany z off cs) (qbb c off L).toList:=by
 have hl:=h.length;have hl2:=hf.length;have hfit':off+L.length≤c.size:=by simp at hl;omega
 refine Fa.of_get (by rw [qbt];simp [qb1 hfit',hl]) fun i x hx=>?_
 rw [qdq cs z off hfit i] at hx;have hg:=qa2 hfit' i;rw [← Array.getElem?_toList] at hg;rw [hg];split at hx
 ·rw [if_pos (by omega)];exact hf.get _ x hx
 ·rw [if_neg (by omega)]
  obtain ⟨v,hv,hr⟩:=h.get i x hx;exact ⟨v,by simpa using hv,hr⟩
theorem qb8 {x:Obj} {n:Nat} (h:n<w.heap.size):(w.alloc x).heap[n]?=w.heap[n]?:=by
 show (w.heap.push x)[n]?=_;rw [Array.getElem?_push,if_neg (Nat.ne_of_lt h)]
theorem qc8 {x:Obj}:(w.alloc x).heap[w.heap.size]?=some x:=by
 show (w.heap.push x)[w.heap.size]?=_;simp
theorem EmbH.newI (e:EmbH Γ H w) {w':World} (hold:∀ n,n<w.heap.size→w'.heap[n]?=w.heap[n]?) (hs:w.heap.size≤w'.heap.size) (ho:w'.os=w.os) (hout:w'.output=w.output) :
  EmbH { Γ with I:=fun b=>Γ.I b∨(w.heap.size≤b∧b<w'.heap.size) } H w'∧Ext Γ H w { Γ with I:=fun b=>Γ.I b∨(w.heap.size≤b∧b<w'.heap.size) } H w':=by
 refine ⟨⟨fun b B hB=>?_,e.inj,fun b hb hk hi=>?_,fun n hn=>?_,e.al,e.rows.of (fun b h=>.inl ⟨h,rfl⟩) (fun b hb hk=>.inl ⟨b,hb,hk,rfl⟩) (fun n hn=>hn.elim .inl fun h=>.inr (.inr h.1)) hs,e.vw⟩,⟨fun n hn _=>hold n hn,hs,ho,hout,fun n hn=>.inl hn,fun n hn=>?_,fun n hn=>.inl hn,fun b hb=>⟨hb,rfl,rfl⟩⟩⟩
 ·exact RepB.mono (fun _ h=>.inl h) (fun b hb=>hold b (e.old b hb)) (fun _ h=>⟨h,rfl,rfl⟩) (e.alive ⟨B,hB⟩) (fun hk=>hold _ (e.lt ⟨B,hB⟩ hk)) (fun t r o h=>⟨rfl,fun n hn=>hold n (e.rows.lt b n ⟨t,r,o,h▸hB⟩ hn)⟩) (e.blk b B hB)
 ·rcases hi with hi | hi
  ·exact e.imm b hb hk hi
  ·exact absurd (e.lt hb hk) (Nat.not_lt.2 hi.1)
 ·rcases hn with hn | hn
  ·exact Nat.lt_of_lt_of_le (e.old n hn) hs
  ·exact hn.2
 ·rcases hn with hn | hn
  ·exact .inl hn
  ·exact .inr (.inr hn.1)
theorem qt1 {k:Nat} {te:Ty} {ys:List (Den te)} {L:List Value} {el:TypeId} (h1:sz te=1) (hh:w.heap[Γ.ν k]?=some (.cells L.toArray el (0,0))) (hk:Γ.κ k=L.length)
  (hx:ys.length=L.length∧∀ (k:Nat) (y:Den te),ys[k]?=some y→∃ v,L[k]?=some v∧RepC w Γ.I te y [v]):RepB w Γ k (.arr te ys false):=by
 simp only [RepB];refine ⟨by omega,fun _=>by omega,fun _=>⟨_,el,hh,by simp [h1,hk],fun i y hy=>?_⟩⟩
 obtain ⟨v,hv,hr⟩:=hx.2 i y hy;refine ⟨[v],hr,fun j u hj=>?_⟩
 cases j with
 | zero=>simp at hj;subst hj;simpa [h1] using hv
 | succ j=>simp at hj
theorem qej {k:Nat} {vs:List AV} {L:List Value} {el:TypeId} (hh:w.heap[Γ.ν k]?=some (.cells L.toArray el (0,0))) (hk0:Γ.κ k≠0)
  (hf:Fa w Γ vs L) (ho:∀ u∈L,u.oneCell'=true):RepB w Γ k (.cells vs):=by
 simp only [RepB];refine ⟨hk0,_,el,hh,by simp [hf.length],fun i x hx=>?_⟩
 obtain ⟨v,hv,hr⟩:=hf.get i x hx;exact ⟨v,by simpa using hv,ho v (wbi hv),hr⟩
theorem qg3 {t:Ty} {x:AV} {B:Blk} {u:Value} (h:qqb t x=some B) (hr:Ra w Γ x u) {k:Nat} {el:TypeId} (hh:w.heap[Γ.ν k]?=some (.cells u.cells el (0,0))) (hk:Γ.κ k=u.cells.size):RepB w Γ k B:=by
 unfold qqb at h;have hh':w.heap[Γ.ν k]?=some (.cells u.cells.toList.toArray el (0,0)):=by simpa using hh
 split at h
 ·rename_i hag;split at h
  ·rename_i t' y;split at h
   ·rename_i z hc;obtain ⟨rfl,rfl⟩:=qat hc;obtain ⟨L,hL,hv⟩:=Ra_val.1 hr;simp only [mkV,hag,if_true] at hv;subst hv;split at h
    ·rename_i s hs;split at h
     ·rename_i hcond;simp only [wa3,beq_iff_eq] at hcond;cases h;exact qt1 hcond.2 hh' (by simpa using hk) (qgd s _ _ L hcond.1 hcond.2 hL)
     ·split at h
      ·rename_i h0;cases h;have hl:=RepC.length _ _ _ hL;exact qej hh' (by rw [hk];simp only [Value.cells,List.size_toArray];omega) (qgb _ _ _ hL) (RepC.oneCell _ _ _ hL)
      ·cases h
    ·cases h
   ·cases h
  ·rename_i l;split at h
   ·rename_i hcond;cases h;simp only [Ra,Rp,wa0,and_true] at hr;obtain ⟨us,hv,hr,ho⟩:=hr;subst hv;have hf:=qdm hcond.1 hr;have hl:=hf.length;exact qej hh' (by rw [hk];simp only [Value.cells,List.size_toArray];omega) hf ho
   ·cases h
  ·cases h
 ·split at h
  ·rename_i hs;cases h;have h1:=qfn hs hr;rw [qch h1] at hh';exact qej hh' (by rw [hk,qch h1];simp) (vs:=[x]) ⟨hr,trivial⟩ (by simpa using h1)
  ·cases h
theorem qep {t:Ty} {v:Value} (ht:isAgg t=false):Fa w Γ (qix t [v]) [v]:=by
 have key:∀ (o:Option (Den t)),qd7 t [v]=o→Fa w Γ (match o with | some x=>[AV.val t x] | none=>[.undef]) [v]:=fun o ho=>by
  cases o with
  | some x=>exact qd9 ht (qcx _ _ _ ho)
  | none=>exact ⟨qcg,trivial⟩
 cases t with
 | slice e =>
  simp only [qix];split
  ·rename_i he;cases he;exact ⟨⟨⟨_,rfl⟩,fun _=>rfl,fun h=>by cases h⟩,trivial⟩
  ·exact ⟨qcg,trivial⟩
 | unit=>simp [isAgg] at ht
 | prod p q=>simp [isAgg] at ht
 | int k=>exact key _ rfl
 | bool=>exact key _ rfl
 | ptr e=>exact key _ rfl
 | optr e=>exact key _ rfl
 | map k v=>exact key _ rfl
 | oth=>exact key _ rfl
theorem qgg:∀ (t:Ty) (cs:List Value),cs.length=sz t→Fa w Γ (qix t cs) cs
 | .unit,cs,h=>by
  have:cs=[]:=wbf h;subst this;trivial
 | .prod p q,cs,h=>by
  simp only [sz] at h;have h1:=qgg p (cs.take (sz p)) (by simp;omega)
  have h2:=qgg q (cs.drop (sz p)) (by simp;omega)
  have:=h1.app h2
  rwa [List.take_append_drop] at this
 | .int k,cs,h=>by
  match cs,h with
  | [v],_=>exact qep rfl
 | .bool,cs,h=>by
  match cs,h with
  | [v],_=>exact qep rfl
 | .slice e,cs,h=>by
  match cs,h with
  | [v],_=>exact qep rfl
 | .ptr e,cs,h=>by
  match cs,h with
  | [v],_=>exact qep rfl
 | .optr e,cs,h=>by
  match cs,h with
  | [v],_=>exact qep rfl
 | .map k v,cs,h=>by
  match cs,h with
  | [v],_=>exact qep rfl
 | .oth,cs,h=>by
  match cs,h with
  | [v],_=>exact qep rfl
theorem qen (e:EmbH Γ H w) {k c:Nat} {B:Blk} {cs:Array Value} {el:TypeId} (hk:H[k]?=some .free)
  (hB:∀ Γ' w',(∀ x v,Ra w Γ x v→Ra w' Γ' x v)→(∀ t (x:Den t) cs,RepC w Γ.I t x cs→RepC w' Γ'.I t x cs)→w'.heap[Γ'.ν k]?=some (.cells cs el (0,0))→Γ'.κ k=c→RepB w' Γ' k B) :
  EmbH (Γ.new k w.heap.size c) (H.set k (.live B)) (w.alloc (.cells cs el))∧Ext Γ H w (Γ.new k w.heap.size c) (H.set k (.live B)) (w.alloc (.cells cs el)):=by
 have hold:∀ n,n<w.heap.size→(w.alloc (.cells cs el)).heap[n]?=w.heap[n]?:=fun n hn=>qb8 hn
 refine e.alloc hk hold (by simp) rfl rfl ?_
 refine hB (Γ.new k w.heap.size c) (w.alloc (.cells cs el)) (fun x v h=>Rp.mono (Γ:=Γ) (Γ':=Γ.new k w.heap.size c) (fun _ h=>h) (fun b hb=>hold b (e.old b hb)) (qie e hk) x _ h) (fun t x cs h=>RepC.mono (fun _ h=>h) (fun b hb=>hold b (e.old b hb)) t x cs h) ?_ qas
 show (w.alloc _).heap[upd Γ.ν k w.heap.size k]?=_;rw [qas,qc8]
theorem qkv {k c:Nat} {w':World}:Ra w' (Γ.new k w.heap.size c) (.ref k 1 0 0) (.pointer (some ⟨w.heap.size,0,none⟩)) :=
 qc3.2 ⟨.inr rfl,by simp [Cx.new,upd]⟩
theorem qsq:∀ {l:List AV} {xs:List Int},q2y l=some xs→l=xs.map (AV.val (.int .i64))
 | [],xs,h=>by simp only [q2y,waz] at h;subst h;rfl
 | v::l,xs,h=>by
  unfold q2y at h;split at h
  ·rename_i h';cases h'
  ·rename_i n l' h';cases h';split at h
   ·rename_i ys hy;cases h;rw [qsq hy];rfl
   ·cases h
  ·cases h
theorem qnx {k:Nat} {B B':Blk} (h:q5b B=some B') (hr:RepB w Γ k B):RepB w Γ k B':=by
 unfold q5b at h;split at h
 ·rename_i v vs;split at h
  ·rename_i xs hx;cases h;refine qd0.2 ⟨rfl,?_⟩;have e:mixL [v] (.int .i64) xs=v::vs:=by rw [qsq hx];rfl
   rw [e];exact hr
  ·cases h
 ·cases h
theorem qyw (em:Emb Γ S a w) (sp:Spec) (base k:Nat) {e:TypeId} {ty:Ty} {inf:TypeInfo} {z:Value} {B:Blk} (hi:P.info? e=some inf) (hz:inf.zero=some z)
  (hsz:z.cells.size=sz ty) (hone:z.cells.toList.all Value.oneCell'=true) {m:Bool} (hB:qrp m ty z.cells.toList=some B) {o:Oper} (ho:o.op=.alloc e)
  (hob:allP (aeff sp base S.T S.H (.alloc k B)).ob):Does P Γ S.H w (aeff sp base S.T S.H (.alloc k B)) ((execOp a.eval o).run P w):=by
 rw [aeff] at hob ⊢;split at hob
 ·rename_i hf;rw [if_pos hf];have hk:=qbp hf;refine Does.new (v:=.pointer (some ⟨w.heap.size,0,none⟩)) (w':=w.alloc (.cells z.cells e)) ?_ rfl (qen em.heap (c:=z.cells.size) hk fun Γ' w' h1 h2 h3 h4=>?_) qkv
  ·simp [execOp,ho,Instr.alloc,zeroValue,typeInfo,hi,hz,newVar,newRow]
  ·have hz0:∀ B0,qrr ty z.cells.toList=some B0→RepB w' Γ' (base+k) B0:=fun B0 hB=>by
    unfold qrr at hB;split at hB
    ·rename_i hag;split at hB
     ·rename_i x hd;have hr:Ra w' Γ' (.val ty x) (.agg z.cells):=Ra_val.2 ⟨_,qcx _ _ _ hd,by simp [mkV,hag]⟩
      exact qg3 hB hr h3 h4
     ·cases hB
    ·cases hB;rename_i hag;have hag':Ab.isAgg ty=false:=by simpa using hag
     exact qej (L:=z.cells.toList) (by simpa using h3) (by rw [h4,hsz,RepC.one hag'];simp) (qgg ty _ (by simpa using hsz)) (List.all_eq_true.1 hone)
   unfold qrp at hB
   cases m with
   | true =>
    simp only at hB;split at hB
    ·rename_i B0 hB0;exact qnx hB (hz0 _ hB0)
    ·cases hB
   | false=>exact hz0 _ hB
 ·exact qaa hob
theorem q6d (em:Emb Γ S a w) (sp:Spec) (base k:Nat) {tx:Option Ty} {x:Operand} {x':Od} (hx:cOd tx x=some x') {e:TypeId} {ty:Ty} {o:Oper} (ho:o.op=.box e x)
  (hob:allP (aeff sp base S.T S.H (.box k ty x')).ob):Does P Γ S.H w (aeff sp base S.T S.H (.box k ty x')) ((execOp a.eval o).run P w):=by
 have r1:=qaj em hx;rw [aeff] at hob ⊢;have hob0:=qbh hob;clear hob;obtain ⟨p,hob⟩:=hob0;have r1:=qah r1 p
 revert hob
 dsimp only [p1]
 generalize (peel (ev S.T x')).2=X at r1;intro hob
 cases hB:qqb ty X with
 | none=>rw [hB] at hob;exact qaa hob
 | some B =>
  rw [hB] at hob;simp only at hob ⊢;split at hob
  ·rename_i hf;rw [if_pos hf];have hk:=qbp hf;refine Does.new (v:=.pointer (some ⟨w.heap.size,0,none⟩)) (w':=w.alloc (.cells (a.eval x).cells e)) ?_ rfl (qen em.heap (c:=(a.eval x).cells.size) hk fun Γ' w' h1 h2 h3 h4=>?_) qkv
   ·simp [execOp,ho,Instr.box,newVar,newRow]
   ·exact qg3 hB (h1 _ _ r1) h3 h4
  ·exact qaa hob
theorem qz1 (em:Emb Γ S a w) (sp:Spec) (base k:Nat) {tx:Option Ty} {x:Operand} {x':Od} (hx:cOd tx x=some x') {e:TypeId} {ty:Ty} {o:Oper} (ho:o.op=.box e x)
  (hob:allP (aeff sp base S.T S.H (.boxm k ty x')).ob):Does P Γ S.H w (aeff sp base S.T S.H (.boxm k ty x')) ((execOp a.eval o).run P w):=by
 have r1:=qaj em hx;rw [aeff] at hob ⊢;have hob0:=qbh hob;clear hob;obtain ⟨p,hob⟩:=hob0;have r1:=qah r1 p
 revert hob
 dsimp only [p1]
 generalize (peel (ev S.T x')).2=X at r1;intro hob
 cases hB:qvi ty X with
 | none=>rw [hB] at hob;exact qaa hob
 | some B =>
  rw [hB] at hob;simp only at hob ⊢;split at hob
  ·rename_i hf;rw [if_pos hf];have hk:=qbp hf;refine Does.new (v:=.pointer (some ⟨w.heap.size,0,none⟩)) (w':=w.alloc (.cells (a.eval x).cells e)) ?_ rfl (qen em.heap (c:=(a.eval x).cells.size) hk fun Γ' w' h1 h2 h3 h4=>?_) qkv
   ·simp [execOp,ho,Instr.box,newVar,newRow]
   ·unfold qvi at hB;split at hB
    ·rename_i B0 hB0;exact qnx hB (qg3 hB0 (h1 _ _ r1) h3 h4)
    ·cases hB
  ·exact qaa hob
theorem qc0 (em:Emb Γ S a w):∀ {tys:List (Option Ty)} {xs:List Operand} {l:List Od},cOds tys xs=some l→Fa w Γ (l.map (ev S.T)) (xs.map a.eval)
 | _,[],l,h=>by simp only [cOds,waz] at h;subst h;trivial
 | tys,x::xs,l,h=>by
  simp only [cOds] at h;split at h
  ·rename_i y ys h1 h2;cases h;exact ⟨qaj em h1,qc0 em h2⟩
  ·cases h
theorem q1z (em:Emb Γ S a w) (sp:Spec) (base:Nat) {f:FuncId} {tys:List (Option Ty)} {first caps:Array Operand} {l:List Od} (h0:first.size=0) (hB:Nat.ble 4096 f=false) (hx:cOds tys caps.toList=some l) {o:Oper} (ho:o.op=.makeFunc (.func f) first caps)
  (hob:allP (aeff sp base S.T S.H (.mkfn f l)).ob):Does P Γ S.H w (aeff sp base S.T S.H (.mkfn f l)) ((execOp a.eval o).run P w):=by
 rw [aeff] at hob ⊢;have r1:=qc0 em hx;have hfe:first=#[]:=by simpa using h0
 refine Does.val em.heap (v:=.func (.func f) #[] (caps.toList.map a.eval).toArray) ?_ rfl ?_
 ·have:Array.map a.eval caps=(List.map a.eval caps.toList).toArray:=by cases caps;simp
  simp [execOp,ho,Instr.makeFunc,hfe,this]
 ·simp only [Ra,Rp,wa0,and_true];exact ⟨_,by unfold fnV;rw [hB],qds.2 r1⟩
theorem qyg (em:Emb Γ S a w) (sp:Spec) (base:Nat) {f:FuncId} {tys:List (Option Ty)} {first caps:Array Operand} {l:List Od} (h0:caps.size=0) (hB:Nat.ble 4096 f=false) (hx:cOds tys first.toList=some l) {o:Oper} (ho:o.op=.makeFunc (.func f) first caps)
  (hob:allP (aeff sp base S.T S.H (.mkfn (4096+f) l)).ob):Does P Γ S.H w (aeff sp base S.T S.H (.mkfn (4096+f) l)) ((execOp a.eval o).run P w):=by
 rw [aeff] at hob ⊢;have r1:=qc0 em hx;have hfe:caps=#[]:=by simpa using h0
 refine Does.val em.heap (v:=.func (.func f) (first.toList.map a.eval).toArray #[]) ?_ rfl ?_
 ·have:Array.map a.eval first=(List.map a.eval first.toList).toArray:=by cases first;simp
  simp [execOp,ho,Instr.makeFunc,hfe,this]
 ·simp only [Ra,Rp,wa0,and_true];refine ⟨_,?_,qds.2 r1⟩;have hb:Nat.ble 4096 (4096+f)=true:=Nat.ble_eq_true_of_le (Nat.le_add_right _ _);have hf:f<4096:=Nat.lt_of_not_le fun h=>by rw [Nat.ble_eq_true_of_le h] at hB;cases hB
  have he:(4096+f) % 4096=f:=by rw [Nat.add_mod_left,Nat.mod_eq_of_lt hf]
  unfold fnV;rw [hb];simp only [he]
theorem qym (em:Emb Γ S a w) (sp:Spec) (base k:Nat) {kt vt:Ty} {t:TypeId} {o:Oper} (ho:o.op=.makeMap t none)
  (hob:allP (aeff sp base S.T S.H (.mkmap k kt vt)).ob):Does P Γ S.H w (aeff sp base S.T S.H (.mkmap k kt vt)) ((execOp a.eval o).run P w):=by
 rw [aeff] at hob ⊢;split at hob
 ·rename_i hf;rw [if_pos hf];have hk:=qbp hf;have hold:∀ n,n<w.heap.size→(w.alloc (.map #[] 0)).heap[n]?=w.heap[n]?:=fun n hn=>qb8 hn
  refine Does.new (v:=.map (some w.heap.size)) (w':=w.alloc (.map #[] 0)) ?_ rfl (em.heap.alloc (c:=1) hk hold (by simp) rfl rfl ?_) ?_
  ·simp [execOp,ho,Instr.makeMap]
  ·simp only [RepB];refine ⟨by simp [Cx.new,upd],#[],0,?_,rfl,fun i e he=>by simp at he⟩
   show (w.alloc _).heap[upd Γ.ν (base+k) w.heap.size (base+k)]?=_;rw [qas,qc8]
  ·simp only [Ra,Rp,wa0,and_true];exact ⟨.inr rfl,by simp [Cx.new,upd]⟩
 ·exact qaa hob
end
section
variable {P:Program} {Γ:Cx} {H:List Hs} {w:World} {S:St} {a:Act}
def bnd (v:Option Value) (d n:Nat):Prop:=(v=none∧n=d)∨∃ k,v=some (.int k (n:Int))
theorem qbs {k:IntKind} {n y:Nat} {c:BoundsCode} (h:n≤y):(Instr.sliceBound (.int k (n:Int)) y c).run P w=.ok n w:=by
 have h1:(0:Int)≤n∧(n:Int)≤y:=by omega
 simp [Instr.sliceBound,asIntOf,h1]
theorem qg9 {is:Bool} {len cap l h m:Nat} {lo hi mx:Option Value} (hm:bnd mx cap m) (hmc:m≤cap) (hh:bnd hi len h) (hs:mx.isSome=true→hi.isSome=true) (hhm:h≤m) (hl:bnd lo 0 l) (hlh:l≤h) :
  (Instr.sliceBounds is len cap lo hi mx).run P w=.ok (l,h,m) w:=by
 unfold Instr.sliceBounds
 rcases hm with ⟨rfl,rfl⟩ | ⟨k1,rfl⟩
 ·rcases hh with ⟨rfl,rfl⟩ | ⟨k2,rfl⟩
  ·rcases hl with ⟨rfl,rfl⟩ | ⟨k3,rfl⟩
   ·simp
   ·simp [qbs hlh]
  ·rcases hl with ⟨rfl,rfl⟩ | ⟨k3,rfl⟩
   ·simp [qbs hhm]
   ·simp [qbs hhm,qbs hlh]
 ·rcases hh with ⟨rfl,rfl⟩ | ⟨k2,rfl⟩
  ·simp at hs
  ·rcases hl with ⟨rfl,rfl⟩ | ⟨k3,rfl⟩
   ·simp [qbs hhm,qbs hmc]
   ·simp [qbs hhm,qbs hlh,qbs hmc]
theorem q2u {t e:TypeId} (hu:P.underlying t=some (.slice e)) {inf:TypeInfo} (hinf:P.info? e=some inf) {ad:Option Addr} {len cap l h m:Nat} {lo hi mx:Option Value} (hm:bnd mx cap m) (hmc:m≤cap) (hh:bnd hi len h)
  (hs:mx.isSome=true→hi.isSome=true) (hhm:h≤m) (hl:bnd lo 0 l) (hlh:l≤h) :
  (Instr.sliceAt t (.slice ad len cap) lo hi mx).run P w=.ok (.slice (if m=l then ad else ad.map (·.add (l*inf.size))) (h-l) (m-l)) w:=by
 simp [Instr.sliceAt,Instr.slice,run_underlying hu,qg9 (P:=P) (w:=w) (is:=true) hm hmc hh hs hhm hl hlh,sizeOf,typeInfo,hinf]
theorem qrj {t e:TypeId} {n:Nat} (hu:P.underlying t=some (.array n e)) {inf:TypeInfo} (hinf:P.info? e=some inf) {b off l h:Nat} {lo hi:Option Value} (hh:bnd hi n h)
  (hhm:h≤n) (hl:bnd lo 0 l) (hlh:l≤h) :
  (Instr.sliceAt t (.pointer (some ⟨b,off,none⟩)) lo hi none).run P w=.ok (.slice (some (if n=l then ⟨b,off,none⟩ else ⟨b,off+l*inf.size,none⟩)) (h-l) (n-l)) w:=by
 simp [Instr.sliceAt,run_underlying hu,Instr.sureAddr,qg9 (P:=P) (w:=w) (is:=false) (mx:=none) (.inl ⟨rfl,rfl⟩) (wad n) hh (by simp) hhm hl hlh,sizeOf,typeInfo,hinf,qbv]
theorem qg8.sub {I:Nat→Prop} {t:Ty} {xs:List (Den t)} {ad:Option Addr} (h:qg8 w I t xs ad) {l h' m:Nat} (hlh:l≤h') (hhm:h'≤m) :
  qg8 w I t ((xs.take h').drop l) (if m=l then ad else ad.map (·.add (l*sz t))):=by
 intro i x hx;rw [wbl,wat] at hx;split at hx
 ·rename_i hlt;obtain ⟨b,off,cs,rfl,g1,g2,g3⟩:=h _ x hx;rw [if_neg (by omega)]
  refine ⟨b,off+l*sz t,cs,by simp [qbv],g1,g2,?_⟩
  rw [Nat.add_assoc,← Nat.add_mul];exact g3
 ·cases hx
theorem qal (em:Emb Γ S a w) {x:Option Operand} {x':Option Od} (hx:cOpt x=some x') {p:List Prop} {n:Option Int} (h:optI S.T x'=some (p,n)) (hp:allP p) :
  (x=none∧n=none)∨∃ m k,n=some m∧x.map a.eval=some (.int k m):=by
 cases x with
 | none =>
  simp only [cOpt,waz] at hx;subst hx;simp only [optI,waz,wa1] at h;exact .inl ⟨rfl,h.2.symm⟩
 | some x =>
  simp only [cOpt] at hx;split at hx
  ·rename_i od ho;cases hx;simp only [optI] at h;split at h
   ·rename_i k m hm;cases h;have r:=qah (qaj em ho) hp;exact .inr ⟨m,k,rfl,by simp [qbe hm r]⟩
   ·cases h
  ·cases hx
theorem qdp {x:Option Operand} {n:Option Int} {d:Nat} (h:(x=none∧n=none)∨∃ m k,n=some m∧x.map a.eval=some (.int k m)) (h0:∀ m,n=some m→0≤m):bnd (x.map a.eval) d ((n.map Int.toNat).getD d):=by
 rcases h with ⟨rfl,rfl⟩ | ⟨m,k,rfl,h⟩
 ·exact .inl ⟨rfl,rfl⟩
 ·have:=h0 m rfl;exact .inr ⟨k,by rw [h];simp;omega⟩
theorem qvq (em:Emb Γ S a w) (sp:Spec) (base:Nat) {tx:Option Ty} {x:Operand} {x':Od} (hx:cOd tx x=some x') {lo hi mx:Option Operand} {lo' hi' mx':Option Od} (hlo:cOpt lo=some lo') (hhi:cOpt hi=some hi') (hmx:cOpt mx=some mx')
  {t e:TypeId} {te:Ty} (hu:P.underlying t=some (.slice e)) (ht:tyS P e=some te)
  {o:Oper} (ho:o.op=.slice t x lo hi mx)
  (hob:allP (aeff sp base S.T S.H (.slc te x' lo' hi' mx')).ob):Does P Γ S.H w (aeff sp base S.T S.H (.slc te x' lo' hi' mx')) ((execOp a.eval o).run P w):=by
 have r1:=qaj em hx;obtain ⟨inf,d,hinf,_,hsz,_⟩:=qbd ht;rw [aeff] at hob ⊢
 cases h1:optI S.T lo' with
 | none=>rw [h1] at hob;exact qaa hob
 | some u1=>cases h2:optI S.T hi' with
  | none=>rw [h1,h2] at hob;exact qaa hob
  | some u2=>cases h3:optI S.T mx' with
   | none=>rw [h1,h2,h3] at hob;exact qaa hob
   | some u3 =>
    obtain ⟨p1',l⟩:=u1;obtain ⟨p2',h⟩:=u2;obtain ⟨p3',m⟩:=u3;rw [h1,h2,h3] at hob;simp only at hob ⊢;have hob0:=qbh hob;clear hob;obtain ⟨p,hob⟩:=hob0;have r1:=qah r1 p
    revert hob
    dsimp only [p1]
    generalize (peel (ev S.T x')).2=X at r1;have hrun:∀ {ad len cap lN hN mN},a.eval x=.slice ad len cap→bnd (mx.map a.eval) cap mN→mN≤cap→bnd (hi.map a.eval) len hN→(mx.isSome=true→hi.isSome=true)→hN≤mN→bnd (lo.map a.eval) 0 lN→lN≤hN →
      (execOp a.eval o).run P w=.ok (.value (.slice (if mN=lN then ad else ad.map (·.add (lN*sz te))) (hN-lN) (mN-lN))) w:=fun {ad len cap lN hN mN} hv a1 a2 a3 a4 a5 a6 a7=>by
     have:=q2u (P:=P) (w:=w) hu hinf (ad:=ad) a1 a2 a3 (by simpa using a4) a5 a6 a7
     rw [hsz] at this;simp only [execOp,ho,hv,Sem.run_bind,this,wbp,Sem.run_pure]
    cases hL:qfw te X with
    | some ys =>
     obtain ⟨ad,cap,hv,hcap,had,hat⟩:=qhb hL r1;have hval:∀ {lN hN mN:Nat},lN≤hN→hN≤mN→mN≤cap→hN≤ys.length→(execOp a.eval o).run P w=.ok (.value (.slice (if mN=lN then ad else ad.map (·.add (lN*sz te))) (hN-lN) (mN-lN))) w →
       Ra w Γ (.val (.slice te) ((ys.take hN).drop lN)) (.slice (if mN=lN then ad else ad.map (·.add (lN*sz te))) (hN-lN) (mN-lN)):=fun {lN hN mN} b1 b2 b3 b4 _=>by
      refine Ra_val.2 (qb0.2 ⟨_,mN-lN,?_,?_,?_,hat.sub b1 b2⟩)
      ·rw [wav,wan,Nat.min_eq_left b4]
      ·rw [wav,wan,Nat.min_eq_left b4];omega
      ·intro hn;split at hn
       ·omega
       ·cases ad with
        | none=>have:=had rfl;omega
        | some _=>simp at hn
     have hvsl:∀ {lN hN mN:Nat},lN≤hN→hN≤mN→mN≤cap→hN≤ys.length →
       Ra w Γ (.vsl te ((ys.take hN).drop lN) (mN-lN)) (.slice (if mN=lN then ad else ad.map (·.add (lN*sz te))) (hN-lN) (mN-lN)):=fun {lN hN mN} b1 b2 b3 b4=>by
      refine qj0.2 ⟨_,?_,?_,?_,hat.sub b1 b2⟩
      ·rw [wav,wan,Nat.min_eq_left b4]
      ·rw [wav,wan,Nat.min_eq_left b4];omega
      ·intro hn;split at hn
       ·omega
       ·cases ad with
        | none=>have:=had rfl;omega
        | some _=>simp at hn
     intro hob;simp only at hob ⊢;have allq:∀ {q:Prop},allP (p1'++p2'++p3'++[q])→allP p1'∧allP p2'∧allP p3'∧q:=fun hq=>by
      obtain ⟨hq1,hq2⟩:=qag.1 hq;obtain ⟨hq3,hq4⟩:=qag.1 hq1;obtain ⟨hq5,hq6⟩:=qag.1 hq3;exact ⟨hq5,hq6,hq4,allP_one.1 hq2⟩
     cases l with
     | none=>cases h with
      | none=>cases m with
       | none =>
        simp only at hob ⊢;obtain ⟨hq3,hq4⟩:=qag.1 hob;obtain ⟨hq5,hq6⟩:=qag.1 hq3;have s1:=qal em hlo h1 hq5;have s2:=qal em hhi h2 hq6;have s3:=qal em hmx h3 hq4;obtain ⟨rfl,_⟩:=s1.resolve_right (by simp)
        obtain ⟨rfl,_⟩:=s2.resolve_right (by simp)
        obtain ⟨rfl,_⟩:=s3.resolve_right (by simp)
        refine Does.val em.heap (hrun (lN:=0) (hN:=ys.length) (mN:=cap) hv (.inl ⟨rfl,rfl⟩) (wad _) (.inl ⟨rfl,rfl⟩) (by simp) hcap (.inl ⟨rfl,rfl⟩) (Nat.zero_le _)) rfl ?_
        rw [hv] at r1;have e:(if cap=0 then ad else ad.map (·.add (0*sz te)))=ad:=by
         split
         ·rfl
         ·cases ad with
          | none=>rfl
          | some _=>simp [Addr.add]
        rw [e];simpa [Ef.when] using r1
       | some m=>exact qaa hob
      | some h=>cases m with
       | none =>
        obtain ⟨q1,q2,q3,q4⟩:=allq hob;have s1:=qal em hlo h1 q1;have s2:=qal em hhi h2 q2;have s3:=qal em hmx h3 q3;obtain ⟨rfl,_⟩:=s1.resolve_right (by simp)
        obtain ⟨rfl,_⟩:=s3.resolve_right (by simp)
        have b2:=qdp (d:=ys.length) s2 (fun m hm=>by cases hm;exact q4.1)
        have r:=hrun (lN:=0) (hN:=h.toNat) (mN:=cap) hv (.inl ⟨rfl,rfl⟩) (wad _) b2 (by simp) (by omega) (.inl ⟨rfl,rfl⟩) (Nat.zero_le _)
        exact Does.val em.heap r rfl (by simpa [Ef.when] using hval (lN:=0) (hN:=h.toNat) (mN:=cap) (Nat.zero_le _) (by omega) (wad _) (by omega) r)
       | some m =>
        obtain ⟨q1,q2,q3,q4⟩:=allq hob;have s1:=qal em hlo h1 q1;have s2:=qal em hhi h2 q2;have s3:=qal em hmx h3 q3;obtain ⟨rfl,_⟩:=s1.resolve_right (by simp)
        have b2:=qdp (d:=ys.length) s2 (fun m hm=>by cases hm;exact q4.1)
        have b3:=qdp (d:=cap) s3 (fun m hm=>by cases hm;omega)
        have hsome:hi.isSome=true:=by rcases s2 with ⟨_,h⟩ | ⟨_,_,_,h⟩;cases h;cases hi<;>simp at h ⊢
        have r:=hrun (lN:=0) (hN:=h.toNat) (mN:=m.toNat) hv b3 (by omega) b2 (fun _=>hsome) (by omega) (.inl ⟨rfl,rfl⟩) (Nat.zero_le _)
        exact Does.val em.heap r rfl (by simpa [Ef.when] using hvsl (lN:=0) (hN:=h.toNat) (mN:=m.toNat) (Nat.zero_le _) (by omega) (by omega) (by omega))
     | some l=>cases h with
      | none=>cases m with
       | none =>
        obtain ⟨q1,q2,q3,q4⟩:=allq hob;have s1:=qal em hlo h1 q1;have s2:=qal em hhi h2 q2;have s3:=qal em hmx h3 q3;obtain ⟨rfl,_⟩:=s2.resolve_right (by simp)
        obtain ⟨rfl,_⟩:=s3.resolve_right (by simp)
        have b1:=qdp (d:=0) s1 (fun m hm=>by cases hm;exact q4.1)
        have r:=hrun (lN:=l.toNat) (hN:=ys.length) (mN:=cap) hv (.inl ⟨rfl,rfl⟩) (wad _) (.inl ⟨rfl,rfl⟩) (by simp) hcap b1 (by omega)
        exact Does.val em.heap r rfl (by simpa [Ef.when] using hval (lN:=l.toNat) (hN:=ys.length) (mN:=cap) (by omega) hcap (wad _) (wad _) r)
       | some m=>exact qaa hob
      | some h=>cases m with
       | none =>
        obtain ⟨q1,q2,q3,q4⟩:=allq hob;have s1:=qal em hlo h1 q1;have s2:=qal em hhi h2 q2;have s3:=qal em hmx h3 q3;obtain ⟨rfl,_⟩:=s3.resolve_right (by simp)
        have b1:=qdp (d:=0) s1 (fun m hm=>by cases hm;exact q4.1)
        have b2:=qdp (d:=ys.length) s2 (fun m hm=>by cases hm;omega)
        have r:=hrun (lN:=l.toNat) (hN:=h.toNat) (mN:=cap) hv (.inl ⟨rfl,rfl⟩) (wad _) b2 (by simp) (by omega) b1 (by omega)
        exact Does.val em.heap r rfl (hval (by omega) (by omega) (wad _) (by omega) r)
       | some m =>
        obtain ⟨q1,q2,q3,q4⟩:=allq hob;have s1:=qal em hlo h1 q1;have s2:=qal em hhi h2 q2;have s3:=qal em hmx h3 q3;have b1:=qdp (d:=0) s1 (fun m hm=>by cases hm;exact q4.1)
        have b2:=qdp (d:=ys.length) s2 (fun m hm=>by cases hm;omega)
        have b3:=qdp (d:=cap) s3 (fun m hm=>by cases hm;omega)
        have hsome:hi.isSome=true:=by rcases s2 with ⟨_,h⟩ | ⟨_,_,_,h⟩;cases h;cases hi<;>simp at h ⊢
        have r:=hrun (lN:=l.toNat) (hN:=h.toNat) (mN:=m.toNat) hv b3 (by omega) b2 (fun _=>hsome) (by omega) b1 (by omega)
        exact Does.val em.heap r rfl (hvsl (by omega) (by omega) (by omega) (by omega))
    | none =>
     intro hob
     cases X with
     | sl b s i len c =>
      simp only at hob ⊢
      by_cases hs:s=sz te
      ·rw [if_pos hs] at hob ⊢;obtain ⟨hA,ad,cap,hv,hcap,hoff,hle⟩:=qca.1 r1;have hsl:∀ {lN hN:Nat},lN≤hN→hN≤len→Ra w Γ (.sl b s (i+lN) (hN-lN) (c.map (·-lN))) (.slice (if cap=lN then ad else ad.map (·.add (lN*sz te))) (hN-lN) (cap-lN)):=fun {lN hN} b1 b2=>by
        refine qca.2 ⟨hA,_,cap-lN,rfl,?_,?_,by omega⟩
        ·rw [hcap]
         cases c with
         | none=>simp;omega
         | some c=>simp
        ·intro hne;rw [if_neg (by omega),hoff (by omega),Nat.add_mul,hs]
         simp [qbv]
       have allq:∀ {q:Prop},allP (p1'++p2'++p3'++[q])→allP p1'∧allP p2'∧allP p3'∧q:=fun hq=>by
        obtain ⟨hq1,hq2⟩:=qag.1 hq;obtain ⟨hq3,hq4⟩:=qag.1 hq1;obtain ⟨hq5,hq6⟩:=qag.1 hq3;exact ⟨hq5,hq6,hq4,allP_one.1 hq2⟩
       cases m with
       | some m =>
        cases l with
        | some l=>cases h<;>exact qaa hob
        | none=>cases h with
         | none=>exact qaa hob
         | some h =>
          obtain ⟨q1,q2,q3,q4⟩:=allq hob;have s1:=qal em hlo h1 q1;have s2:=qal em hhi h2 q2;have s3:=qal em hmx h3 q3;obtain ⟨rfl,_⟩:=s1.resolve_right (by simp)
          have b2:=qdp (d:=len) s2 (fun m hm=>by cases hm;exact q4.1)
          have b3:=qdp (d:=cap) s3 (fun m hm=>by cases hm;omega)
          have hsome:hi.isSome=true:=by rcases s2 with ⟨_,h⟩ | ⟨_,_,_,h⟩;cases h;cases hi<;>simp at h ⊢
          have r:=hrun (lN:=0) (hN:=h.toNat) (mN:=m.toNat) hv b3 (by omega) b2 (fun _=>hsome) (by omega) (.inl ⟨rfl,rfl⟩) (Nat.zero_le _)
          refine Does.val em.heap r rfl ?_;refine qca.2 ⟨hA,_,m.toNat,rfl,rfl,fun hne=>?_,by omega⟩
          rw [if_neg hne,hoff (by omega)]
          simp [qbv]
       | none =>
        cases l with
        | none=>cases h with
         | none =>
          simp only at hob ⊢;obtain ⟨hq3,hq4⟩:=qag.1 hob;obtain ⟨hq5,hq6⟩:=qag.1 hq3;have s1:=qal em hlo h1 hq5;have s2:=qal em hhi h2 hq6;have s3:=qal em hmx h3 hq4;obtain ⟨rfl,_⟩:=s1.resolve_right (by simp)
          obtain ⟨rfl,_⟩:=s2.resolve_right (by simp)
          obtain ⟨rfl,_⟩:=s3.resolve_right (by simp)
          refine Does.val em.heap (hrun (lN:=0) (hN:=len) (mN:=cap) hv (.inl ⟨rfl,rfl⟩) (wad _) (.inl ⟨rfl,rfl⟩) (by simp) hle (.inl ⟨rfl,rfl⟩) (Nat.zero_le _)) rfl ?_
          have:=hsl (lN:=0) (hN:=len) (Nat.zero_le _) (wad _);have hc0:c.map (·-0)=c:=by cases c<;>simp
          rw [hc0] at this;simpa [Ef.when] using this
         | some h =>
          obtain ⟨q1,q2,q3,q4⟩:=allq hob;have s1:=qal em hlo h1 q1;have s2:=qal em hhi h2 q2;have s3:=qal em hmx h3 q3;obtain ⟨rfl,_⟩:=s1.resolve_right (by simp)
          obtain ⟨rfl,_⟩:=s3.resolve_right (by simp)
          have b2:=qdp (d:=len) s2 (fun m hm=>by cases hm;exact q4.1)
          have r:=hrun (lN:=0) (hN:=h.toNat) (mN:=cap) hv (.inl ⟨rfl,rfl⟩) (wad _) b2 (by simp) (by omega) (.inl ⟨rfl,rfl⟩) (Nat.zero_le _)
          have:=hsl (lN:=0) (hN:=h.toNat) (Nat.zero_le _) (by omega)
          have hc0:c.map (·-0)=c:=by cases c<;>simp
          rw [hc0] at this;exact Does.val em.heap r rfl (by simpa [Ef.when] using this)
        | some l=>cases h with
         | none =>
          obtain ⟨q1,q2,q3,q4⟩:=allq hob;have s1:=qal em hlo h1 q1;have s2:=qal em hhi h2 q2;have s3:=qal em hmx h3 q3;obtain ⟨rfl,_⟩:=s2.resolve_right (by simp)
          obtain ⟨rfl,_⟩:=s3.resolve_right (by simp)
          have b1:=qdp (d:=0) s1 (fun m hm=>by cases hm;exact q4.1)
          have r:=hrun (lN:=l.toNat) (hN:=len) (mN:=cap) hv (.inl ⟨rfl,rfl⟩) (wad _) (.inl ⟨rfl,rfl⟩) (by simp) hle b1 (by omega)
          exact Does.val em.heap r rfl (hsl (by omega) (wad _))
         | some h =>
          obtain ⟨q1,q2,q3,q4⟩:=allq hob;have s1:=qal em hlo h1 q1;have s2:=qal em hhi h2 q2;have s3:=qal em hmx h3 q3;obtain ⟨rfl,_⟩:=s3.resolve_right (by simp)
          have b1:=qdp (d:=0) s1 (fun m hm=>by cases hm;exact q4.1)
          have b2:=qdp (d:=len) s2 (fun m hm=>by cases hm;omega)
          have r:=hrun (lN:=l.toNat) (hN:=h.toNat) (mN:=cap) hv (.inl ⟨rfl,rfl⟩) (wad _) b2 (by simp) (by omega) b1 (by omega)
          exact Does.val em.heap r rfl (hsl (by omega) (by omega))
      ·rw [if_neg hs] at hob;exact qaa hob
     | _=>exact qaa hob
end
section
variable {P:Program} {Γ:Cx} {H:List Hs} {w:World} {S:St} {a:Act}
theorem qx5 {I:Nat→Prop} {n:Nat} {te:Ty} {z:Den (arrT n te)} {b off:Nat} {c:List Value} (h1:I b) (h2:RepC w I (arrT n te) z c) (h3:qa1 w b off c) :
  qg8 w I te (qed n te z) (some ⟨b,off,none⟩):=by
 intro i x hx;obtain ⟨_,g2⟩:=qf9 n z c h2;exact ⟨b,off,_,rfl,h1,g2 i x hx,h3.part _ _⟩
theorem q4r (em:Emb Γ S a w) (sp:Spec) (base:Nat) {tx:Option Ty} {x:Operand} {x':Od} (hx:cOd tx x=some x') {lo hi:Option Operand} {lo' hi':Option Od} (hlo:cOpt lo=some lo') (hhi:cOpt hi=some hi')
  {t e:TypeId} {te:Ty} {n:Nat} (hu:P.underlying t=some (.array n e)) (ht:tyS P e=some te)
  {o:Oper} (ho:o.op=.slice t x lo hi none)
  (hob:allP (aeff sp base S.T S.H (.sla n te x' lo' hi')).ob):Does P Γ S.H w (aeff sp base S.T S.H (.sla n te x' lo' hi')) ((execOp a.eval o).run P w):=by
 have r1:=qaj em hx;obtain ⟨inf,d,hinf,_,hsz,_⟩:=qbd ht;rw [aeff] at hob ⊢
 cases h1:optI S.T lo' with
 | none=>rw [h1] at hob;exact qaa hob
 | some u1=>cases h2:optI S.T hi' with
  | none=>rw [h1,h2] at hob;exact qaa hob
  | some u2 =>
   obtain ⟨p1',l⟩:=u1;obtain ⟨p2',h⟩:=u2;rw [h1,h2] at hob;simp only at hob ⊢;have hob0:=qbh hob;clear hob;obtain ⟨p,hob⟩:=hob0;have r1:=qah r1 p
   revert hob
   dsimp only [p1]
   generalize (peel (ev S.T x')).2=X at r1;have hrun:∀ {b off lN hN},a.eval x=.pointer (some ⟨b,off,none⟩)→bnd (hi.map a.eval) n hN→hN≤n→bnd (lo.map a.eval) 0 lN→lN≤hN →
     (execOp a.eval o).run P w=.ok (.value (.slice (some (if n=lN then ⟨b,off,none⟩ else ⟨b,off+lN*sz te,none⟩)) (hN-lN) (n-lN))) w:=fun {b off lN hN} hv a3 a5 a6 a7=>by
    have:=qrj (P:=P) (w:=w) hu hinf (b:=b) (off:=off) a3 a5 a6 a7;rw [hsz] at this;simp only [execOp,ho,hv,Sem.run_bind,Option.map_none,this,wbp,Sem.run_pure]
   have allq:∀ {q:Prop},allP (p1'++p2'++[q])→allP p1'∧allP p2'∧q:=fun hq=>by
    obtain ⟨hq1,hq2⟩:=qag.1 hq;obtain ⟨hq3,hq4⟩:=qag.1 hq1;exact ⟨hq3,hq4,allP_one.1 hq2⟩
   intro hob
   cases X with
   | val T y =>
    cases T with
    | ptr T =>
     simp only at hob ⊢
     cases hc:qa9 T (arrT n te) y with
     | none=>rw [hc] at hob;exact qaa hob
     | some z =>
      rw [hc] at hob;simp only at hob ⊢;obtain ⟨e1,e2⟩:=qat hc;subst e1;have e2:z=y:=e2;subst e2;obtain ⟨b,off,c,hv,g1,g2,g3⟩:=qeh.1 (Ra_val.1 r1);have hL:=qx5 g1 g2 g3;have hlen:=(qf9 n _ c g2).1;have key:∀ {lN hN:Nat},lN≤hN→hN≤n→Ra w Γ (.val (.slice te) (((qed n te z).take hN).drop lN)) (.slice (some (if n=lN then ⟨b,off,none⟩ else ⟨b,off+lN*sz te,none⟩)) (hN-lN) (n-lN)):=fun {lN hN} b1 b2=>by
       refine Ra_val.2 (qb0.2 ⟨some (if n=lN then ⟨b,off,none⟩ else ⟨b,off+lN*sz te,none⟩),n-lN,?_,?_,by simp,?_⟩)
       ·rw [wav,wan,hlen,Nat.min_eq_left b2]
       ·rw [wav,wan,hlen,Nat.min_eq_left b2];omega
       ·have:=hL.sub b1 b2;have e:(if n=lN then some (⟨b,off,none⟩:Addr) else (some ⟨b,off,none⟩:Option Addr).map (·.add (lN*sz te)))=some (if n=lN then ⟨b,off,none⟩ else ⟨b,off+lN*sz te,none⟩):=by
         split
         ·rfl
         ·simp [qbv]
        rw [← e];exact this
      cases l with
      | none=>cases h with
       | none =>
        obtain ⟨q1,q2⟩:=qag.1 hob;obtain ⟨rfl,_⟩:=(qal em hlo h1 q1).resolve_right (by simp)
        obtain ⟨rfl,_⟩:=(qal em hhi h2 q2).resolve_right (by simp)
        have:=key (lN:=0) (hN:=n) (Nat.zero_le _) (wad _);refine Does.val em.heap (hrun (lN:=0) (hN:=n) hv (.inl ⟨rfl,rfl⟩) (wad _) (.inl ⟨rfl,rfl⟩) (Nat.zero_le _)) rfl ?_;rw [wak (by omega)] at this
        simpa [Ef.when] using this
       | some h =>
        obtain ⟨q1,q2,q4⟩:=allq hob;obtain ⟨rfl,_⟩:=(qal em hlo h1 q1).resolve_right (by simp)
        have b2:=qdp (d:=n) (qal em hhi h2 q2) (fun m hm=>by cases hm;exact q4.1)
        have:=key (lN:=0) (hN:=h.toNat) (Nat.zero_le _) (by omega)
        exact Does.val em.heap (hrun (lN:=0) (hN:=h.toNat) hv b2 (by omega) (.inl ⟨rfl,rfl⟩) (Nat.zero_le _)) rfl (by simpa [Ef.when] using this)
      | some l=>cases h with
       | none =>
        obtain ⟨q1,q2,q4⟩:=allq hob;obtain ⟨rfl,_⟩:=(qal em hhi h2 q2).resolve_right (by simp)
        have b1:=qdp (d:=0) (qal em hlo h1 q1) (fun m hm=>by cases hm;exact q4.1)
        have:=key (lN:=l.toNat) (hN:=n) (by omega) (wad _)
        rw [wak (by omega)] at this
        exact Does.val em.heap (hrun (lN:=l.toNat) (hN:=n) hv (.inl ⟨rfl,rfl⟩) (wad _) b1 (by omega)) rfl (by simpa [Ef.when] using this)
       | some h=>exact qaa hob
    | _=>exact qaa hob
   | ref b s i o' =>
    simp only at hob ⊢
    by_cases hs:s=sz te∧o'=0
    ·rw [if_pos hs] at hob ⊢;obtain ⟨hs,h0⟩:=hs;subst h0;obtain ⟨hA,hv⟩:=qc3.1 r1;have key:∀ {lN hN:Nat},lN≤hN→hN≤n→Ra w Γ (.sl b s (i+lN) (hN-lN) (some (n-lN))) (.slice (some (if n=lN then ⟨Γ.ν b,i*s+0,none⟩ else ⟨Γ.ν b,i*s+0+lN*sz te,none⟩)) (hN-lN) (n-lN)):=fun {lN hN} b1 b2=>by
      refine qca.2 ⟨hA,_,n-lN,rfl,rfl,?_,by omega⟩
      intro hne;rw [if_neg (by omega),Nat.add_mul,hs];rfl
     cases l with
     | none=>cases h with
      | none =>
       obtain ⟨q1,q2⟩:=qag.1 hob;obtain ⟨rfl,_⟩:=(qal em hlo h1 q1).resolve_right (by simp)
       obtain ⟨rfl,_⟩:=(qal em hhi h2 q2).resolve_right (by simp)
       have:=key (lN:=0) (hN:=n) (Nat.zero_le _) (wad _);exact Does.val em.heap (hrun (lN:=0) (hN:=n) hv (.inl ⟨rfl,rfl⟩) (wad _) (.inl ⟨rfl,rfl⟩) (Nat.zero_le _)) rfl (by simpa [Ef.when] using this)
      | some h =>
       obtain ⟨q1,q2,q4⟩:=allq hob;obtain ⟨rfl,_⟩:=(qal em hlo h1 q1).resolve_right (by simp)
       have b2:=qdp (d:=n) (qal em hhi h2 q2) (fun m hm=>by cases hm;exact q4.1)
       have:=key (lN:=0) (hN:=h.toNat) (Nat.zero_le _) (by omega)
       exact Does.val em.heap (hrun (lN:=0) (hN:=h.toNat) hv b2 (by omega) (.inl ⟨rfl,rfl⟩) (Nat.zero_le _)) rfl (by simpa [Ef.when] using this)
     | some l=>cases h with
      | none =>
       obtain ⟨q1,q2,q4⟩:=allq hob;obtain ⟨rfl,_⟩:=(qal em hhi h2 q2).resolve_right (by simp)
       have b1:=qdp (d:=0) (qal em hlo h1 q1) (fun m hm=>by cases hm;exact q4.1)
       have:=key (lN:=l.toNat) (hN:=n) (by omega) (wad _)
       exact Does.val em.heap (hrun (lN:=l.toNat) (hN:=n) hv (.inl ⟨rfl,rfl⟩) (wad _) b1 (by omega)) rfl (by simpa [Ef.when] using this)
      | some h=>exact qaa hob
    ·rw [if_neg hs] at hob;exact qaa hob
   | _=>exact qaa hob
theorem q0o (em:Emb Γ S a w) (mx:Bool) (k:IntKind):∀ {tys:List (Option Ty)} {xs:List Operand} {l:List Od},cOds tys xs=some l→∀ {m r:Int} {p:List Prop},qqt mx k S.T m l=some (p,r)→allP p →
  ((xs.map a.eval).foldlM (if mx then Builtin.max2 else Builtin.min2) (.int k m)).run P w=.ok (.int k r) w
 | _,[],l,h,m,r,p,hm,_=>by
  simp only [cOds,waz] at h;subst h;simp only [qqt,waz,wa1] at hm;rw [hm.2];rfl
 | tys,x::xs,l,h,m,r,p,hm,hp=>by
  simp only [cOds] at h;split at h
  ·rename_i y ys h1 h2;cases h;simp only [qqt] at hm;split at hm
   ·rename_i k' b hb;split at hm
    ·rename_i q c hq;split at hm
     ·rename_i hk;subst hk;cases hm;obtain ⟨hp1,hp2⟩:=qag.1 hp;have hv:=qbe hb (qah (qaj em h1) hp1);have ih:=q0o em mx k h2 hq hp2;simp only [wbd,List.foldlM_cons,hv,Sem.run_bind];cases mx
      ·simp only [wa2,if_false] at ih ⊢;simp only [Builtin.min2,Sem.run_pure,wbp];exact ih
      ·simp only [if_true] at ih ⊢;simp only [Builtin.max2,Sem.run_pure,wbp];exact ih
     ·cases hm
    ·cases hm
   ·cases hm
  ·cases h
theorem q02 (em:Emb Γ S a w) (sp:Spec) (base:Nat) {mx:Bool} {tys:List (Option Ty)} {xs:List Operand} {y:Od} {ys:List Od} (hx:cOds tys xs=some (y::ys))
  {o : Oper} (ho : (execOp a.eval o).run P w = ((match xs.map a.eval with | [] => stuck "" | v :: r => r.foldlM (if mx then Builtin.max2 else Builtin.min2) v : Sem Value).run P w).andThen fun v w' => .ok (.value v) w')
  (hob:allP (aeff sp base S.T S.H (.mm mx y ys)).ob):Does P Γ S.H w (aeff sp base S.T S.H (.mm mx y ys)) ((execOp a.eval o).run P w):=by
 cases xs with
 | nil=>simp [cOds] at hx
 | cons x xs =>
  simp only [cOds] at hx;split at hx
  ·rename_i y' ys' h1 h2;cases hx;have r1:=qaj em h1;rw [aeff] at hob ⊢;have hob0:=qbh hob;clear hob;obtain ⟨p,hob⟩:=hob0;have r1:=qah r1 p
   revert hob
   dsimp only [p1]
   generalize (peel (ev S.T y)).2=X at r1
   cases hI:asInt X with
   | none=>exact fun hob=>qaa hob
   | some u =>
    obtain ⟨k,m⟩:=u;simp only
    cases hm:qqt mx k S.T m ys with
    | none=>exact fun hob=>qaa hob
    | some v =>
     obtain ⟨q,r⟩:=v;intro hob;refine Does.val em.heap (v:=.int k r) ?_ rfl (qcq.2 rfl);rw [ho];simp only [wbd,qbe hI r1];rw [q0o em mx k h2 hm hob];rfl
  ·cases hx
theorem qm9 (em:Emb Γ S a w) {te:Ty}:∀ {ps:List (Nat×Operand)} {n:Nat} {l:List Od} {q:List Prop} {xs:List (Den te)},qcn te n ps=some l→qdn te S.T l=some (q,xs)→allP q →
  xs.length=ps.length∧∀ (cells:Array Value),(n+ps.length)*sz te≤cells.size →
   ∃ cells' L,Instr.fill (fun i=>some (i*sz te,sz te)) cells (ps.map fun p=>(p.1,a.eval p.2))=some cells'∧cells'=qbb cells (n*sz te) L∧L.length=ps.length*sz te ∧
    ∀ (i:Nat) (x:Den te),xs[i]?=some x→RepC w Γ.I te x ((L.drop (i*sz te)).take (sz te))
 | [],n,l,q,xs,h,hb,_=>by
  simp only [qcn,waz] at h;subst h;simp only [qdn,waz,wa1] at hb;obtain ⟨_,rfl⟩:=hb;refine ⟨rfl,fun cells hc=>⟨cells,[],rfl,?_,by simp,fun i x hx=>by simp at hx⟩⟩
  simp only [wa9,Nat.add_zero] at hc;apply Array.ext_getElem?;intro i;rw [qa2 (by simpa using hc),if_neg (by simp)]
 | (i,x)::ps,n,l,q,xs,h,hb,hq=>by
  simp only [qcn] at h;split at h
  ·rename_i od l' h1 h2;split at h
   ·rename_i hin;subst hin;cases h;simp only [qdn] at hb;split at hb
    ·rename_i p t' y q' ys he hr;split at hb
     ·rename_i z hc;cases hb;obtain ⟨hp1,hp2⟩:=qag.1 hq;obtain ⟨ih1,ih2⟩:=qm9 em h2 hr hp2;have r:=qaj em h1;have r:=qah r (by rw [he];exact hp1)
      rw [he] at r;obtain ⟨e1,e2⟩:=qat hc;subst e1;subst e2;obtain ⟨cs,hcs,hv⟩:=Ra_val.1 r;have hlen:=RepC.length _ _ _ hcs;have hcell:(a.eval x).cells.toList=cs:=by
       rw [hv];unfold mkV
       cases hag:isAgg t' with
       | true=>rfl
       | false =>
        rw [RepC.one hag] at hlen
        match cs,hlen,hcs with
        | [u],_,hcs =>
         simp only [wa2,if_false,List.headD_cons];rw [qch (RepC.oneCell _ _ _ hcs u (by simp))]
      have hsize:(a.eval x).cells.size=sz t':=by rw [← hlen,← hcell];simp
      refine ⟨by simp [ih1],fun cells hfit=>?_⟩
      simp only [wa5] at hfit;have hfit1:(i+1)*sz t'≤cells.size:=Nat.le_trans (Nat.mul_le_mul_right _ (by omega)) hfit
      rw [Nat.succ_mul] at hfit1;obtain ⟨cells',L,f1,f2,f3,f4⟩:=ih2 (qbb cells (i*sz t') cs) (by rw [qb1 (by omega)];rw [show i+1+ps.length=i+(ps.length+1) by omega];exact hfit)
      refine ⟨cells',cs++L,?_,?_,by rw [wae,f3,hlen,wa5,Nat.succ_mul];omega,?_⟩
      ·simp only [wbd,Instr.fill,hsize];rw [if_neg (by simp;omega),qko (by rw [hsize];omega),hcell]
       exact f1
      ·subst f2;have g1:(i+1)*sz t'+L.length≤cells.size:=by
        rw [f3,← Nat.add_mul];exact Nat.le_trans (Nat.mul_le_mul_right _ (by omega)) hfit
       have g2:(i+1)*sz t'=i*sz t'+sz t':=Nat.succ_mul _ _;apply Array.ext_getElem?;intro j;rw [qa2 (by rw [qb1 (by omega)];exact g1),qa2 (by omega),qa2 (by simp;omega)]
       simp only [wae]
       by_cases q1:i*sz t'≤j∧j<i*sz t'+cs.length
       ·rw [if_neg (by omega),if_pos q1,if_pos (by omega),waf (by omega)]
       ·by_cases q2:(i+1)*sz t'≤j∧j<(i+1)*sz t'+L.length
        ·rw [if_pos q2,if_pos (by omega),wag (by omega)]
         congr 1;omega
        ·rw [if_neg q2,if_neg q1,if_neg (by omega)]
      ·intro j y hy
       cases j with
       | zero =>
        simp at hy;subst hy;simpa [← hlen] using hcs
       | succ j =>
        have:=f4 j y (by simpa using hy)
        have e:(j+1)*sz t'-cs.length=j*sz t':=by rw [Nat.succ_mul];omega
        rw [List.drop_append,List.drop_eq_nil_of_le (by rw [Nat.succ_mul];omega),e]
        simpa using this
     ·cases hb
    ·cases hb
   ·cases h
  ·cases h
theorem qfm {te:Ty}:∀ {ps:List (Nat×Operand)} {n:Nat} {l:List Od},qcn te n ps=some l→l.length=ps.length
 | [],n,l,h=>by simp only [qcn,waz] at h;subst h;rfl
 | (i,x)::ps,n,l,h=>by
  simp only [qcn] at h;split at h
  ·rename_i od l' h1 h2;split at h
   ·cases h;simp [qfm h2]
   ·cases h
  ·cases h
theorem qfx (em:Emb Γ S a w) {t e:TypeId} {te:Ty} {inf:TypeInfo} {z:Value} {n:Nat} {ps:Array (Nat×Operand)} {l:List Od} {q:List Prop} {xs:List (Den te)}
  (hu:P.underlying t=some (.slice e)) (ht:tyS P e=some te) (hi:P.info? e=some inf) (hz:inf.zero=some z) (hl:qcn te 0 ps.toList=some l) (hn:l.length=n) (hzs:z.cells.size=sz te) (hbig:n*sz te≤1000000)
  (hb:qdn te S.T l=some (q,xs)) (hq:allP q) {o:Oper} (ho:o.op=.buildSlice t n ps) :
  ∃ cs,(execOp a.eval o).run P w=.ok (.value (.slice (some ⟨w.heap.size,0,none⟩) n n)) (w.alloc (.cells cs e))∧cs.size=n*sz te∧xs.length=n ∧
   ∀ (i:Nat) (x:Den te),xs[i]?=some x→RepC w Γ.I te x ((cs.toList.drop (i*sz te)).take (sz te)):=by
 obtain ⟨inf',d,hi',_,hsz,_⟩:=qbd ht;rw [hi] at hi';cases hi';have hlen:=qfm hl;obtain ⟨h1,h2⟩:=qm9 em hl hb hq;have hn':ps.toList.length=n:=by omega
 obtain ⟨cells',L,f1,f2,f3,f4⟩:=h2 ((Array.range (n*sz te)).map (z.cells[· % z.cells.size]!)) (by simp only [Array.size_map,Array.size_range,wa7];rw [hn'];exact wad _)
 have hLn:L.length=n*sz te:=by rw [f3,hn']
 have hce:cells'=L.toArray:=by
  subst f2;apply Array.ext_getElem?;intro j;rw [qa2 (by simp;omega)]
  simp only [Nat.zero_mul,Nat.zero_le,true_and,wa7,Nat.sub_zero,List.getElem?_toArray];split
  ·rfl
  ·rw [wac (by omega)];simp;omega
 refine ⟨cells',?_,by rw [hce];simpa using hLn,by omega,fun i x hx=>by rw [hce];exact f4 i x hx⟩
 have hbig':¬ (n*sz te > 2 ^ 24):=by omega
 have e1:(ps.map fun x=>(x.1,a.eval x.2)).toList=ps.toList.map fun p=>(p.1,a.eval p.2):=by simp
 have hr0:Array.range 0=(#[]:Array Nat):=rfl;simp only [execOp,ho,Instr.buildSlice,Sem.run_bind,run_underlying hu,wbp,sizeOf,typeInfo,run_program,hi,Sem.run_pure,hsz,hbig',if_false,zeroValue,hz]
 by_cases h0:n*sz te=0
 ·rw [h0,hr0] at f1;simp only [h0,if_true,Sem.run_bind,Sem.run_pure,wbp,hr0,List.map_toArray,List.map_nil];rw [e1];simp only [Array.map_empty] at f1 ⊢;rw [f1];simp [newRow]
 ·simp only [h0,if_false,Sem.run_bind,run_program,wbp,hi,hz,Sem.run_pure];rw [e1];rw [f1];simp [newRow]
end
end Go.Ab
