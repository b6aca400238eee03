/- Lists and loops that count: what laws about slices of numbers want. -/
import Derived.Test.YtieimmiiaabpgaaGreatAS
set_option linter.unusedVariables false
set_option linter.unusedSimpArgs false
namespace Go.Ab
abbrev I64:Ty:=.int .i64
abbrev LI:Ty:=.slice I64
def zfl {α:Type} (l:List α):Prop:=(l.length:Int)<9223372036854775808
structure SCon where
 f:FuncId
 ins:List TV
 ibl:List TB
 outs:List TV
 obl:List TB
 pre:List AV→Option (List Prop)
 F:List AV→Option (Dens (outs.flatMap TV.ts++tsB obl))
def resS:List AV→AV
 | [x]=>x
 | l=>.tup (toAV l)
def stL (bl:List TB) (tvs:List TV) (env:List AV):List Nat:=qt1 bl (qge (cntC tvs) env)
def stB (nm:List Nat) (tvs:List TV) (bl:List TB) (env:List AV):List Hs:=qbh nm (stL bl tvs env) bl (qge (cntC tvs) env)
def stV (nm:List Nat) (tvs:List TV) (bl:List TB) (env:List AV):List AV:=qfw nm (stL bl tvs env) tvs env
def SCon.Ok (P:Program) (c:SCon):Prop:=qbw P c.f=true ∧
 ∀ (Γ:Cx) (w:World) (env:List AV) (p:List Prop) (r:Dens (c.outs.flatMap TV.ts++tsB c.obl)) (vs:List Value),EmbH Γ (stB (qa5 0 c.ibl.length) c.ins c.ibl env) w→qde (c.ins.flatMap TV.ts++tsB c.ibl) env→c.pre env=some p→c.F env=some r→allP p →
  Fa w Γ (stV (qa5 0 c.ibl.length) c.ins c.ibl env) vs →
  Calls P c.f vs.toArray w fun en w'=>∃ v Γ',en=.returned v∧Ext Γ (stB (qa5 0 c.ibl.length) c.ins c.ibl env) w Γ' (stB (qa5 0 c.obl.length) c.outs c.obl (qbc _ r)) w' ∧
   EmbH Γ' (stB (qa5 0 c.obl.length) c.outs c.obl (qbc _ r)) w'∧Ra w' Γ' (resS (stV (qa5 0 c.obl.length) c.outs c.obl (qbc _ r))) v
def qid (acc:List (Nat×Nat)) (H:List Hs) (tvs:List TV) (bl:List TB) (xs:List AV):Option (List (Option Nat)×List Prop×List AV) :=
 match rhoL (qdk H 0 bl acc) 0 bl with
 | ρ=>match qiq (qga bl ρ) with
  | true=>match qfv ρ H (qfi H ρ bl) tvs xs,qck ρ H (qfi H ρ bl) ρ bl with
   | some (p,h),some (q,r)=>some (ρ,p++q,h++r)
   | _,_=>none
  | false=>none
def noA:Nat→Prop:=fun _=>False
section
variable {w w':World} {Γ Γ':Cx} {H:List Hs}
theorem qk2 {acc:List (Nat×Nat)} {tvs:List TV} {bl:List TB} {xs:List AV} {ρ:List (Option Nat)} {p:List Prop} {env:List AV} (h:qid acc H tvs bl xs=some (ρ,p,env)) :
  ∃ p1 h1 q r,ρ=rhoL (qdk H 0 bl acc) 0 bl∧qiq (qga bl ρ)=true∧qfv ρ H (qfi H ρ bl) tvs xs=some (p1,h1)∧qck ρ H (qfi H ρ bl) ρ bl=some (q,r)∧p=p1++q∧env=h1++r:=by
 simp only [qid] at h;generalize hρ:rhoL (qdk H 0 bl acc) 0 bl=ρ' at h;split at h
 ·rename_i hnd;split at h
  ·rename_i p1 h1 q r e1 e2;cases h;exact ⟨p1,h1,q,r,rfl,hnd,e1,e2,rfl,rfl⟩
  ·cases h
 ·cases h
theorem q93 {b:Nat} {h:Hs} {n:Nat} (hlt:b<H.length):(H.set b h)[n]?=if n=b then some h else H[n]?:=by
 rw [wax]
 by_cases hn:b=n
 ·subst hn;simp [hlt]
 ·rw [if_neg hn,if_neg (fun h'=>hn h'.symm)]
def OwnB (Γ:Cx) (H:List Hs) (c n:Nat):Prop:=(Live H c∧Γ.κ c≠0∧Γ.ν c=n)∨(Nest H c∧Γ.O c n)
theorem OwnB.wr {c n:Nat} (h:OwnB Γ H c n):Wr Γ H n:=h.elim (fun ⟨a,b,d⟩=>.inl ⟨c,a,b,d⟩) fun ⟨a,b⟩=>.inr ⟨c,a,b⟩
theorem q1d {n:Nat} (h:Wr Γ H n):∃ c,OwnB Γ H c n:=h.elim (fun ⟨c,a,b,d⟩=>⟨c,.inl ⟨a,b,d⟩⟩) fun ⟨c,a,b⟩=>⟨c,.inr ⟨a,b⟩⟩
theorem EmbH.own_eq (e:EmbH Γ H w) {b c n:Nat} (h:OwnB Γ H b n) (h':OwnB Γ H c n):b=c:=by
 rcases h with ⟨h1,h2,h3⟩ | ⟨h1,h2⟩<;>rcases h' with ⟨g1,g2,g3⟩ | ⟨g1,g2⟩
 ·exact e.inj b c h1 g1 h2 g2 (h3.trans g3.symm)
 ·exact absurd h3 (e.rows.main c b n g1 h1 h2 g2)
 ·exact absurd g3 (e.rows.main b c n h1 g1 g2 h2)
 ·exact e.rows.dis b c n h1 g1 h2 g2
theorem EmbH.own_lt (e:EmbH Γ H w) {b n:Nat} (h:OwnB Γ H b n):n<w.heap.size:=by
 rcases h with ⟨h1,h2,rfl⟩ | ⟨h1,h2⟩
 ·exact e.lt h1 h2
 ·exact e.rows.lt b n h1 h2
theorem EmbH.own_imm (e:EmbH Γ H w) {b n:Nat} (h:OwnB Γ H b n):¬ Γ.I n:=by
 rcases h with ⟨h1,h2,rfl⟩ | ⟨h1,h2⟩
 ·exact e.imm b h1 h2
 ·exact e.rows.imm b n h1 h2
theorem q97 (em:EmbH Γ H w) {ρ:List (Option Nat)} {lens:List Nat} {bl:List TB} {q:List Prop} {r rest:List AV} (hr:qck ρ H lens ρ bl=some (q,r)) (hq:allP q) {n:Nat} (h:Wr (Γ.head 0 ρ noA) (qbh (qa5 0 ρ.length) lens bl (r++rest)) n) :
  ∃ (j c:Nat),ρ[j]?=some (some c)∧OwnB Γ H c n:=by
 have hn:Nm Γ (Γ.head 0 ρ noA) ρ (qa5 0 ρ.length):=Nm.head;obtain ⟨hrl,hrg⟩:=qht (nm:=qa5 0 ρ.length) rest hr hq
 rcases h with ⟨b,⟨B,hB⟩,hk,he⟩ | ⟨b,⟨t,rw,ou,hB⟩,ho⟩
 case inr =>
  obtain ⟨o,tb,p',h',rest',k1,k2,k3,k4⟩:=hrg _ _ hB;obtain ⟨i,h1,h2⟩:=ho
  cases o with
  | none =>
   have:=hn.rn _ k1 i;rw [qat (qcd k1),wa8] at this;exact absurd this h1
  | some c =>
   have hc:=qkl k2 rest' k4.symm c rfl;have:=hn.rr _ _ k1;rw [qat (qcd k1),wa8] at this;exact ⟨b,c,k1,.inr ⟨hc,(Cx.O_congr this).1 ⟨i,h1,h2⟩⟩⟩
 obtain ⟨o,tb,p',h',rest',k1,k2,k3,k4⟩:=hrg _ _ hB;obtain ⟨m1,m2⟩:=qja em.blk hn k1 k2 k3 rest' k4.symm;have hj:=qcd k1
 cases o with
 | none =>
  have:=(hn.no _ k1).2;rw [qat hj,wa8] at this;exact absurd this hk
 | some c =>
  obtain ⟨_,g2,g3⟩:=hn.so _ _ k1;rw [qat hj,wa8] at g2 g3;exact ⟨b,c,k1,.inl ⟨m1 c rfl,by rw [← g3];exact hk,by rw [← g2];exact he⟩⟩
theorem qj2 (em:EmbH Γ H w) {acc:List (Nat×Nat)} {tvs:List TV} {bl:List TB} {xs:List AV} {ρ:List (Option Nat)} {p:List Prop} {env:List AV} (h:qid acc H tvs bl xs=some (ρ,p,env)) (hp:allP p) :
  ρ.length=bl.length∧qde (tvs.flatMap TV.ts++tsB bl) env∧EmbH (Γ.head 0 ρ noA) (stB (qa5 0 bl.length) tvs bl env) w ∧
  (∀ n,Wr (Γ.head 0 ρ noA) (stB (qa5 0 bl.length) tvs bl env) n→∃ (j c:Nat),ρ[j]?=some (some c)∧OwnB Γ H c n) ∧
  ∀ vs,Fa w Γ xs vs→Fa w (Γ.head 0 ρ noA) (stV (qa5 0 bl.length) tvs bl env) vs:=by
 obtain ⟨p1,h1,q,r,hρ,hnd,e1,e2,rfl,rfl⟩:=qk2 h;have hρl:ρ.length=bl.length:=by rw [hρ];exact qi2
 obtain ⟨hp1,hq⟩:=qae.1 hp;have hdrop:qge (cntC tvs) (h1++r)=r:=qdb ((qjx e1).length.trans qnk);have hle:qt1 bl r=qfi H ρ bl:=by have:=quv [] e2;rwa [wbw] at this
 have hrl:=zck (K:=[]) (A0:=noA) em (fun b B hB=>by simp at hB) (fun b c i f hb=>by simp at hb) (fun b=>⟨fun h=>h.elim,fun ⟨x,hx,_⟩=>by simp at hx⟩) e2 hq hnd []
 simp only [wbw,wbg,wbb] at hrl;have hn:Nm Γ (Γ.head 0 ρ noA) ρ (qa5 0 ρ.length):=Nm.head;have hst:stB (qa5 0 bl.length) tvs bl (h1++r)=qbh (qa5 0 ρ.length) (qfi H ρ bl) bl r:=by
  simp only [stB,stL,hdrop,hle,hρl]
 refine ⟨hρl,(qjx e1).app (qna e2),?_,fun n hn'=>?_,fun vs hf=>?_⟩
 ·rw [hst];exact hrl.1
 ·rw [hst] at hn';have:=q97 (rest:=[]) em e2 hq (n:=n);rw [wbw] at this;exact this hn'
 ·have:=qt7 em.blk hn r e1 hp1 hf;simp only [stV,stL,hdrop,hle,← hρl];exact this
def TV.pl (m:Nat):TV→Bool
 | .sl j _ _=>Nat.blt j m
 | .slf j _=>Nat.blt j m
 | .ref j _ _ _=>Nat.blt j m
 | .mref j=>Nat.blt j m
 | .fn _ c=>c.pl m
 | .cons a l=>a.pl m && l.pl m
 | .opt x=>x.pl m
 | _=>true
def plC (m:Nat):List TV→Bool
 | []=>true
 | x::l=>x.pl m && plC m l
def plB (m:Nat):List TB→Bool
 | []=>true
 | .cells l::bl=>plC m l && plB m bl
 | .mix l _::bl=>plC m l && plB m bl
 | .view _::_=>false
 | _::bl=>plB m bl
theorem qi3 {m:Nat} {nm lens:List Nat}:∀ {bl:List TB} {env:List AV} {j:Nat} {c i:Nat} {f:Bool},plB m bl=true→(qbh nm lens bl env)[j]?≠some (.view c i f)
 | [],_,_,_,_,_,_,h=>by simp [qbh] at h
 | b::bl,env,0,c,i,f,hp,h=>by
  simp only [qbh,wa7,wa0] at h;cases b<;>simp [qdf,plB] at h hp
 | b::bl,env,j+1,c,i,f,hp,h=>by
  simp only [qbh,wa5] at h;have hp':plB m bl=true:=by cases b<;>simp [plB] at hp<;>first | exact hp | exact hp.2
  exact qi3 hp' h
def VE (env:List AV):Prop:=∀ x∈env,∃ (t:Ty) (y:Den t),x=.val t y
theorem qde.ve:∀ {ts:List Ty} {env:List AV},qde ts env→VE env
 | [],[],_=>fun x hx=>by cases hx
 | t::ts,x::xs,h=>fun y hy=>by
  rcases List.mem_cons.1 hy with rfl | hy
  ·obtain ⟨z,hz⟩:=h.1;exact ⟨t,z,hz⟩
  ·exact qde.ve h.2 y hy
 | [],_::_,h=>h.elim
 | _::_,[],h=>h.elim
theorem qra:∀ {ts:List Ty} {x:Dens ts},qde ts (qbc ts x)
 | [],_=>trivial
 | t::ts,x=>⟨⟨x.1,rfl⟩,qra⟩
theorem VE.drop:∀ {n:Nat} {env:List AV},VE env→VE (qge n env)
 | 0,_,h=>h
 | _+1,[],h=>h
 | n+1,_::l,h=>VE.drop (n:=n) fun x hx=>h x (wan _ hx)
section
variable {nm nm' lens:List Nat} {m:Nat}
theorem qj5 (hI:∀ b,Γ.I b→Γ'.I b) (hr:∀ j,j<m→Γ'.A (nmAt nm' j)∧Γ'.ν (nmAt nm' j)=Γ.ν (nmAt nm j)∧Γ'.κ (nmAt nm' j)=Γ.κ (nmAt nm j)):∀ {tv:TV} {env:List AV} {vs:List Value},tv.pl m=true→VE env →
  Rp w Γ (qdq nm lens tv env) vs→Rp w Γ' (qdq nm' lens tv env) vs
 | .u,env,vs,_,_,h=>by simpa only [qdq,Rp] using h
 | .v t,[],vs,_,_,h=>by simpa only [qdq,List.headD_nil,Rp] using h
 | .v t,x::env,vs,_,hv,h=>by
  obtain ⟨t',y,rfl⟩:=hv x (by simp)
  simp only [qdq,List.headD_cons,Rp] at h ⊢;obtain ⟨v,e,h⟩:=h;exact ⟨v,e,h.mono hI (fun _ _=>rfl)⟩
 | .sl j s i,env,vs,hj,_,h=>by
  simp only [qdq,Rp] at h ⊢;obtain ⟨g1,g2,g3⟩:=hr j (by simpa [TV.pl] using hj)
  exact ⟨g1,by rw [g2,g3];exact h.2⟩
 | .slf j s,env,vs,hj,_,h=>by
  simp only [qdq,Rp] at h ⊢;obtain ⟨g1,g2,g3⟩:=hr j (by simpa [TV.pl] using hj)
  exact ⟨g1,by rw [g2,g3];exact h.2⟩
 | .ref j s i o,env,vs,hj,_,h=>by
  simp only [qdq,Rp] at h ⊢;obtain ⟨g1,g2,g3⟩:=hr j (by simpa [TV.pl] using hj)
  exact ⟨g1,by rw [g2];exact h.2⟩
 | .mref j,env,vs,hj,_,h=>by
  simp only [qdq,Rp] at h ⊢;obtain ⟨g1,g2,g3⟩:=hr j (by simpa [TV.pl] using hj)
  exact ⟨g1,by rw [g2];exact h.2⟩
 | .fn f c,env,vs,hj,hv,h=>by
  simp only [qdq,Rp] at h ⊢;obtain ⟨us,e,h⟩:=h;exact ⟨us,e,qj5 hI hr (tv:=c) hj hv h⟩
 | .nil,env,vs,_,_,h=>by simpa only [qdq,Rp] using h
 | .cons a l,env,vs,hj,hv,h=>by
  simp only [TV.pl,wa4] at hj;simp only [qdq,Rp] at h ⊢;obtain ⟨v,us,e,h1,h2⟩:=h;exact ⟨v,us,e,qj5 hI hr hj.1 hv h1,qj5 hI hr hj.2 hv.drop h2⟩
 | .opt x,env,vs,hj,hv,h=>by
  simp only [qdq,Rp] at h ⊢;exact ⟨h.1,h.2.1,fun hb=>⟨qj5 hI hr (tv:=x) hj hv.drop (h.2.2 hb).1,(h.2.2 hb).2⟩⟩
theorem qmk (hI:∀ b,Γ.I b→Γ'.I b) (hr:∀ j,j<m→Γ'.A (nmAt nm' j)∧Γ'.ν (nmAt nm' j)=Γ.ν (nmAt nm j)∧Γ'.κ (nmAt nm' j)=Γ.κ (nmAt nm j)):∀ {l:List TV} {env:List AV},plC m l=true→VE env →
  (qfw nm' lens l env).length=(qfw nm lens l env).length∧∀ (i:Nat) (a:AV),(qfw nm' lens l env)[i]?=some a→∃ a0,(qfw nm lens l env)[i]?=some a0∧∀ v,Ra w Γ a0 v→Ra w Γ' a v
 | [],env,_,_=>⟨rfl,fun i a h=>by simp [qfw] at h⟩
 | tv::l,env,hp,hv=>by
  simp only [plC,wa4] at hp;obtain ⟨k1,k2⟩:=qmk hI hr hp.2 (hv.drop (n:=tv.n));simp only [qfw];refine ⟨by simp only [wa6,k1],fun i a h=>?_⟩
  cases i with
  | zero =>
   simp only [wa7,wa0] at h ⊢;subst h;exact ⟨_,rfl,fun v h=>qj5 hI hr hp.1 hv h⟩
  | succ i =>
   simp only [wa5] at h ⊢;exact k2 i a h
theorem qlr:∀ {l:List TV} {env:List AV},(qfw nm lens l env).length=l.length
 | [],_=>rfl
 | tv::l,env=>by simp [qfw,qlr (l:=l)]
theorem qmq (hI:∀ b,Γ.I b→Γ'.I b) (hr:∀ j,j<m→Γ'.A (nmAt nm' j)∧Γ'.ν (nmAt nm' j)=Γ.ν (nmAt nm j)∧Γ'.κ (nmAt nm' j)=Γ.κ (nmAt nm j)):∀ {bl:List TB} {env:List AV},plB m bl=true→VE env →
  ∀ (j:Nat) (B:Blk),(qbh nm' lens bl env)[j]?=some (.live B)→∃ B0,(qbh nm lens bl env)[j]?=some (.live B0)∧(∀ t r o,B=.nest t r o→∃ t r o,B0=.nest t r o)∧∀ b b',Γ'.ν b'=Γ.ν b→Γ'.κ b'=Γ.κ b→Γ'.R b'=Γ.R b→RepB w Γ b B0→RepB w Γ' b' B
 | [],env,_,_,j,B,h=>by simp [qbh] at h
 | tb::bl,env,hp,hv,j,B,h=>by
  have hp2:plB m bl=true:=by cases tb<;>simp [plB] at hp<;>first | exact hp | exact hp.2
  simp only [qbh] at h ⊢
  cases j with
  | succ j =>
   simp only [wa5] at h ⊢;exact qmq hI hr hp2 hv.drop j B h
  | zero =>
   simp only [wa7,wa0] at h ⊢
   cases tb with
   | arr t opn =>
    simp only [qdf,Hs.live.injEq] at h ⊢;subst h;refine ⟨_,rfl,(fun _ _ _ h=>by cases h),fun b b' hν hκ hR hb=>?_⟩
    simp only [RepB] at hb ⊢;rw [hν,hκ];obtain ⟨h1,h2,h3⟩:=hb;refine ⟨h1,h2,fun hk=>?_⟩
    obtain ⟨c,el,g1,g2,g3⟩:=h3 hk;refine ⟨c,el,g1,g2,fun i x hx=>?_⟩
    obtain ⟨cs,m1,m2⟩:=g3 i x hx;exact ⟨cs,RepC.mono hI (fun _ _=>rfl) _ _ _ m1,m2⟩
   | cells l =>
    simp only [qdf,Hs.live.injEq] at h ⊢;subst h;refine ⟨_,rfl,(fun _ _ _ h=>by cases h),fun b b' hν hκ hR hb=>?_⟩
    simp only [plB,wa4] at hp;obtain ⟨k1,k2⟩:=qmk (w:=w) (lens:=lens) hI hr hp.1 hv;simp only [RepB] at hb ⊢;rw [hν,hκ];obtain ⟨h1,c,el,h2,h3,h4⟩:=hb;refine ⟨h1,c,el,h2,h3.trans k1.symm,fun i a ha=>?_⟩
    obtain ⟨a0,g1,g2⟩:=k2 i a ha;obtain ⟨v,m1,m2,m3⟩:=h4 i a0 g1;exact ⟨v,m1,m2,g2 v m3⟩
   | map k v =>
    simp only [qdf,Hs.live.injEq] at h ⊢;subst h;refine ⟨_,rfl,(fun _ _ _ h=>by cases h),fun b b' hν hκ hR hb=>?_⟩
    simp only [RepB] at hb ⊢;rw [hν,hκ];obtain ⟨h1,c,el,h2,h3,h4⟩:=hb;refine ⟨h1,c,el,h2,h3,fun i a ha=>?_⟩
    obtain ⟨ent,ck,cv,m1,m2,m3,m4,m5⟩:=h4 i a ha;exact ⟨ent,ck,cv,m1,RepC.mono hI (fun _ _=>rfl) _ _ _ m2,m3,RepC.mono hI (fun _ _=>rfl) _ _ _ m4,m5⟩
   | mix l t =>
    simp only [qdf,Hs.live.injEq] at h ⊢;subst h;refine ⟨_,rfl,(fun _ _ _ h=>by cases h),fun b b' hν hκ hR hb=>?_⟩
    simp only [plB,wa4] at hp;obtain ⟨k1,k2⟩:=qmk (w:=w) (lens:=lens) (env:=qge 1 env) hI hr hp.1 hv.drop;obtain ⟨ha,hb⟩:=qed.1 hb;refine qed.2 ⟨ha,?_⟩;simp only [RepB] at hb ⊢;rw [hν,hκ];obtain ⟨h1,c,el,h2,h3,h4⟩:=hb;refine ⟨h1,c,el,h2,h3.trans (by simp [mixL,k1]),fun i a ha=>?_⟩
    unfold mixL at ha h4
    rcases Nat.lt_or_ge i (qfw nm' lens l (qge 1 env)).length with hi | hi
    ·rw [wag hi] at ha;obtain ⟨a0,g1,g2⟩:=k2 i a ha;obtain ⟨v,m1,m2,m3⟩:=h4 i a0 (by rw [wag (by omega)];exact g1)
     exact ⟨v,m1,m2,g2 v m3⟩
    ·rw [wah hi] at ha;obtain ⟨v,m1,m2,m3⟩:=h4 i a (by rw [wah (by omega),← k1];exact ha)
     rw [wap] at ha
     cases hz:(qi0 t (env.headD .undef))[i-(qfw nm' lens l (qge 1 env)).length]? with
     | none=>rw [hz] at ha;cases ha
     | some z =>
      rw [hz] at ha;cases ha;exact ⟨v,m1,m2,Ra_val.2 ((Ra_val.1 m3).mono hI (fun _ _=>rfl))⟩
   | dead=>simp [qdf] at h
   | view k=>simp [qdf] at h
   | nest t =>
    simp only [qdf,Hs.live.injEq] at h ⊢;subst h;refine ⟨_,rfl,(fun _ _ _ h=>⟨_,_,_,rfl⟩),fun b b' hν hκ hR hb=>?_⟩
    simp only [RepB] at hb ⊢;rw [hν,hκ,hR];obtain ⟨h1,h2⟩:=hb;refine ⟨h1,fun hk=>?_⟩
    obtain ⟨c,el,g1,g2,g3⟩:=h2 hk;refine ⟨c,el,g1,g2,fun i x hx=>?_⟩
    obtain ⟨m1,m2⟩:=g3 i x hx;exact ⟨m1.mono hI (fun _ _=>rfl) (fun _=>rfl),m2⟩
theorem za5 {Γ Γ':Cx} {xs ys:List AV} {v:Value} (hl:ys.length=xs.length) (h:∀ (i:Nat) (a:AV),ys[i]?=some a→∃ a0,xs[i]?=some a0∧∀ v,Ra w Γ a0 v→Ra w Γ' a v) (hr:Ra w Γ (resS xs) v):Ra w Γ' (resS ys) v:=by
 have key:∀ us,Fa w Γ xs us→Fa w Γ' ys us:=fun us hf=>Fa.of_get (by rw [hl,hf.length]) fun i a ha=>by
  obtain ⟨a0,h1,h2⟩:=h i a ha;obtain ⟨u,h3,h4⟩:=hf.get i a0 h1;exact ⟨u,h3,h2 u h4⟩
 match xs,ys,hl with
 | [],[],_ =>
  simp only [resS,Ra,Rp,wa1,and_true] at hr ⊢;obtain ⟨us,e,hr⟩:=hr;exact ⟨us,e,qd2.2 (key us (qd2.1 hr))⟩
 | [x],[y],_ =>
  simp only [resS] at hr ⊢;exact (key [v] ⟨hr,trivial⟩).1
 | x::x'::xs,y::y'::ys,_ =>
  simp only [resS,Ra,Rp,wa1,and_true] at hr ⊢;obtain ⟨us,e,hr⟩:=hr;exact ⟨us,e,qd2.2 (key us (qd2.1 hr))⟩
end
def posN:List Nat→Nat→Option Nat
 | [],_=>none
 | x::l,b=>match Nat.beq x b with
  | true=>some 0
  | false=>match posN l b with
   | some j=>some (j+1)
   | none=>none
def qil:List Nat→Bool
 | []=>true
 | x::l=>match posN l x with
  | none=>qil l
  | some _=>false
def quk (H:List Hs) (b:Nat):Bool:=match H[b]? with
 | some .free=>false
 | some _=>true
 | none=>false
def nmOk (H:List Hs):List (Option Nat)→List Nat→Bool
 | [],[]=>true
 | none::ρ,n::nm=>qax H n && nmOk H ρ nm
 | some b::ρ,n::nm=>Nat.beq b n && quk H n && nmOk H ρ nm
 | _,_=>false
def qyh:Nat→List (Option Nat)→List Nat
 | _,[]=>[]
 | base,some b::l=>b::qyh base l
 | base,none::l=>base::qyh (Nat.succ base) l
def qnu:List (Option Nat)→List Nat
 | []=>[]
 | some b::l=>b::qnu l
 | none::l=>qnu l
def zipH:List Nat→List Hs→List (Nat×Hs)
 | n::l,h::hs=>(n,h)::zipH l hs
 | _,_=>[]
theorem qf8:∀ {l:List Nat} {b j:Nat},posN l b=some j→l[j]?=some b
 | x::l,b,j,h=>by
  simp only [posN] at h;split at h
  ·rename_i hx;cases h;rw [waj hx];rfl
  ·split at h
   ·rename_i j' hj;cases h;simpa using qf8 hj
   ·cases h
theorem qhb:∀ {l:List Nat} {b:Nat},posN l b=none→b∉l
 | [],b,_=>by simp
 | x::l,b,h=>by
  simp only [posN] at h;split at h
  ·cases h
  ·rename_i hx;split at h
   ·cases h
   ·rename_i hn;have:=qhb hn;simp only [List.mem_cons,not_or];exact ⟨fun h=>(by rw [h,Nat.beq_refl] at hx;cases hx),this⟩
theorem qrs:∀ {l:List Nat} {b j:Nat},qil l=true→l[j]?=some b→posN l b=some j
 | x::l,b,0,_,hj=>by
  simp only [wa7,wa0] at hj;subst hj;simp [posN]
 | x::l,b,j+1,h,hj=>by
  simp only [wa5] at hj;simp only [qil] at h;split at h
  ·rename_i hx;have hne:x≠b:=fun e=>qhb hx (e▸wbp hj)
   have:Nat.beq x b=false:=Bool.eq_false_iff.2 fun h=>hne (waj h)
   simp only [posN,this,qrs h hj]
  ·cases h
theorem q5j {l:List Nat} {b:Nat} (h:b∈l):∃ j,posN l b=some j:=by
 cases hp:posN l b with
 | none=>exact absurd h (qhb hp)
 | some j=>exact ⟨j,rfl⟩
theorem qrr:∀ {l:List Nat} {j b:Nat},l[j]?=some b→nmAt l j=b
 | x::l,0,b,h=>by simpa [nmAt] using h
 | x::l,j+1,b,h=>by simp only [nmAt];exact qrr (by simpa using h)
theorem qnm:∀ {ρ:List (Option Nat)} {nm:List Nat},nmOk H ρ nm=true→nm.length=ρ.length∧∀ (j n:Nat),nm[j]?=some n→(ρ[j]?=some none∧qax H n=true)∨(ρ[j]?=some (some n)∧quk H n=true)
 | [],[],_=>⟨rfl,fun j n h=>by simp at h⟩
 | none::ρ,n::nm,h=>by
  simp only [nmOk,wa4] at h;obtain ⟨k1,k2⟩:=qnm h.2;refine ⟨by simp [k1],fun j b hb=>?_⟩
  cases j with
  | zero=>simp at hb;subst hb;exact .inl ⟨rfl,h.1⟩
  | succ j=>simpa using k2 j b (by simpa using hb)
 | some b0::ρ,n::nm,h=>by
  simp only [nmOk,wa4] at h;obtain ⟨k1,k2⟩:=qnm h.2;refine ⟨by simp [k1],fun j b hb=>?_⟩
  cases j with
  | zero =>
   simp at hb;subst hb;have:b0=n:=by simpa using h.1.1
   subst this;exact .inr ⟨rfl,h.1.2⟩
  | succ j=>simpa using k2 j b (by simpa using hb)
 | [],_::_,h=>by simp [nmOk] at h
 | _::_,[],h=>by rename_i x _;cases x<;>simp [nmOk] at h
theorem q0n:∀ {nm:List Nat} {hs H:List Hs},nm.length=hs.length→qil nm=true→(∀ b∈nm,b<H.length)→∀ b,(qaq H (zipH nm hs))[b]?=match posN nm b with
  | some j=>hs[j]?
  | none=>H[b]?
 | [],[],H,_,_,_,b=>rfl
 | n::nm,h::hs,H,hl,hn,hb,b=>by
  simp only [zipH,qaq];simp only [qil] at hn;split at hn
  ·rename_i hx;rw [q0n (by simpa using hl) hn (fun c hc=>by rw [wak];exact hb c (wan _ hc))]
   simp only [posN];have hnl:=hb n (waz ..)
   cases hp:posN nm b with
   | none =>
    rw [q93 hnl]
    by_cases hbn:n=b
    ·subst hbn;simp
    ·have:Nat.beq n b=false:=Bool.eq_false_iff.2 fun h=>hbn (waj h)
     rw [if_neg (fun h=>hbn h.symm)]
     simp only [this]
   | some j =>
    have hne:n≠b:=fun e=>by subst e;rw [hx] at hp;cases hp
    have:Nat.beq n b=false:=Bool.eq_false_iff.2 fun h=>hne (waj h)
    simp only [this,wa5]
  ·cases hn
 | [],_::_,_,hl,_,_,_=>by simp at hl
 | _::_,[],_,hl,_,_,_=>by simp at hl
def Cx.back (Γ Γ1:Cx) (nm:List Nat):Cx where
 I:=Γ1.I
 A:=fun b=>Γ.A b∨b∈nm
 ν:=fun b=>match posN nm b with
  | some j=>Γ1.ν j
  | none=>Γ.ν b
 κ:=fun b=>match posN nm b with
  | some j=>Γ1.κ j
  | none=>Γ.κ b
 R:=fun b=>match posN nm b with
  | some j=>Γ1.R j
  | none=>Γ.R b
theorem q5s {b:Nat} (h:quk H b=true):∃ x,H[b]?=some x∧x≠.free:=by
 unfold quk at h;split at h
 ·cases h
 ·rename_i x hx hh;exact ⟨x,hh,fun e=>hx (e▸rfl)⟩
 ·cases h
theorem zd2 (e:EmbH Γ H w) {ρ:List (Option Nat)} {k:Nat} {nm:List Nat} (hnm:nmOk H (ρ++List.replicate k none) nm=true) (hnd:qil nm=true) {Hi Ho0 Ho:List Hs} {Γ1:Cx}
  (hwr:∀ n,Wr (Γ.head 0 ρ noA) Hi n→∃ (j c:Nat),ρ[j]?=some (some c)∧OwnB Γ H c n) (hx:Ext (Γ.head 0 ρ noA) Hi w Γ1 Ho0 w') (em1:EmbH Γ1 Ho0 w')
  (hl:Ho.length=nm.length) (hnf:∀ (j:Nat) (x:Hs),Ho[j]?=some x→x≠.free)
  (hrn:∀ (j:Nat) (B:Blk),Ho[j]?=some (.live B)→∃ B0,Ho0[j]?=some (.live B0)∧(∀ t r o,B=.nest t r o→∃ t r o,B0=.nest t r o)∧∀ b',(Γ.back Γ1 nm).ν b'=Γ1.ν j→(Γ.back Γ1 nm).κ b'=Γ1.κ j→(Γ.back Γ1 nm).R b'=Γ1.R j→RepB w' Γ1 j B0→RepB w' (Γ.back Γ1 nm) b' B) (hnw:∀ (j c i:Nat) (f:Bool),Ho[j]?≠some (.view c i f))
  (hV:∀ (m b i:Nat) (f:Bool) (j:Nat),H[m]?=some (.view b i f)→posN nm b=some j→¬ Nest Ho j) :
  Ext Γ H w (Γ.back Γ1 nm) (qaq H (zipH nm Ho)) w'∧EmbH (Γ.back Γ1 nm) (qaq H (zipH nm Ho)) w':=by
 obtain ⟨hl1,hsp⟩:=qnm hnm;have hlt:∀ b∈nm,b<H.length:=fun b hb=>by
  obtain ⟨j,hj⟩:=q5j hb
  rcases hsp j b (qf8 hj) with ⟨_,h⟩ | ⟨_,h⟩
  ·exact qbi (qbr h)
  ·obtain ⟨x,hx,_⟩:=q5s h;exact qbi hx
 have hget:∀ b,(qaq H (zipH nm Ho))[b]?=match posN nm b with
  | some j=>Ho[j]?
  | none=>H[b]?:=q0n hl.symm hnd hlt
 have hν:∀ {b j:Nat},posN nm b=some j→(Γ.back Γ1 nm).ν b=Γ1.ν j:=fun h=>by simp only [Cx.back,h]
 have hκ:∀ {b j:Nat},posN nm b=some j→(Γ.back Γ1 nm).κ b=Γ1.κ j:=fun h=>by simp only [Cx.back,h]
 have hν':∀ {b:Nat},posN nm b=none→(Γ.back Γ1 nm).ν b=Γ.ν b:=fun h=>by simp only [Cx.back,h]
 have hκ':∀ {b:Nat},posN nm b=none→(Γ.back Γ1 nm).κ b=Γ.κ b:=fun h=>by simp only [Cx.back,h]
 have hA:∀ b,Γ.A b→(Γ.back Γ1 nm).A b∧(Γ.back Γ1 nm).ν b=Γ.ν b∧(Γ.back Γ1 nm).κ b=Γ.κ b:=fun b hb=>by
  refine ⟨.inl hb,?_⟩
  cases hp:posN nm b with
  | none=>exact ⟨hν' hp,hκ' hp⟩
  | some j =>
   rcases hsp j b (qf8 hp) with ⟨_,h⟩ | ⟨h,_⟩
   ·obtain ⟨x,hx,hne⟩:=(e.al b).1 hb;rw [qbr h] at hx;cases hx;exact absurd rfl hne
   ·have h':ρ[j]?=some (some b):=by
     rcases Nat.lt_or_ge j ρ.length with h1 | h1
     ·rwa [wag h1] at h
     ·rw [wah h1,way] at h;split at h<;>cases h
    obtain ⟨g1,g2,g3⟩:=(Nm.head (Γ:=Γ) (len:=0) (ρ:=ρ) (A0:=noA)).so j b h';rw [qat (qcd h'),wa8] at g1 g2 g3;obtain ⟨_,f2,f3⟩:=hx.al j g1;rw [hν hp,hκ hp];exact ⟨f2.trans g2,f3.trans g3⟩
 have hlive:∀ {b:Nat} {B:Blk},(qaq H (zipH nm Ho))[b]?=some (.live B)→(∃ j,posN nm b=some j∧Ho[j]?=some (.live B))∨(posN nm b=none∧H[b]?=some (.live B)):=fun {b B} h=>by
  rw [hget] at h;split at h
  ·rename_i j hj;exact .inl ⟨j,hj,h⟩
  ·rename_i hj;exact .inr ⟨hj,h⟩
 have hL0:∀ {j:Nat} {B:Blk},Ho[j]?=some (.live B)→Live Ho0 j:=fun h=>by
  obtain ⟨B0,h0,_⟩:=hrn _ _ h;exact ⟨B0,h0⟩
 have hN0:∀ {j:Nat},Nest Ho j→Nest Ho0 j:=fun ⟨t,r,o,h⟩=>by
  obtain ⟨B0,h0,hn,_⟩:=hrn _ _ h;obtain ⟨t',r',o',rfl⟩:=hn t r o rfl;exact ⟨t',r',o',h0⟩
 have hR:∀ {b j:Nat},posN nm b=some j→(Γ.back Γ1 nm).R b=Γ1.R j:=fun h=>by simp only [Cx.back,h]
 have hR':∀ {b:Nat},posN nm b=none→(Γ.back Γ1 nm).R b=Γ.R b:=fun h=>by simp only [Cx.back,h]
 have hO:∀ {b j:Nat},posN nm b=some j→(Γ.back Γ1 nm).O b=Γ1.O j:=fun h=>by funext n;exact propext (Cx.O_congr (hR h))
 have hO':∀ {b:Nat},posN nm b=none→(Γ.back Γ1 nm).O b=Γ.O b:=fun h=>by funext n;exact propext (Cx.O_congr (hR' h))
 have hsep:∀ {b n:Nat},posN nm b=none→OwnB Γ H b n→¬ Wr (Γ.head 0 ρ noA) Hi n:=fun {b n} hp hb h=>by
  obtain ⟨j,c,h1,h2⟩:=hwr _ h;have hcb:=e.own_eq h2 hb;subst hcb;have hj:=qcd h1;have hjn:j<nm.length:=by rw [hl1,waf];omega
  have hg:=wab hjn
  rcases hsp j _ hg with ⟨h5,_⟩ | ⟨h5,_⟩
  ·rw [wag hj,h1] at h5;cases h5
  ·rw [wag hj,h1] at h5;simp only [wa0] at h5;exact qhb hp (h5▸waq hjn)
 have hwr1:∀ n,Wr (Γ.head 0 ρ noA) Hi n→Wr Γ H n:=fun n h=>by
  obtain ⟨j,c,_,h2⟩:=hwr n h;exact h2.wr
 have hown:∀ {b n:Nat},OwnB (Γ.back Γ1 nm) (qaq H (zipH nm Ho)) b n→(∃ j,posN nm b=some j∧OwnB Γ1 Ho0 j n)∨(posN nm b=none∧OwnB Γ H b n):=fun {b n} h=>by
  rcases h with ⟨⟨B,hb⟩,hk,he⟩ | ⟨⟨t,r,o,hb⟩,ho⟩
  ·rcases hlive hb with ⟨j,hj,h⟩ | ⟨hj,h⟩
   ·exact .inl ⟨j,hj,.inl ⟨hL0 h,by rw [hκ hj] at hk;exact hk,by rw [hν hj] at he;exact he⟩⟩
   ·exact .inr ⟨hj,.inl ⟨⟨B,h⟩,by rw [hκ' hj] at hk;exact hk,by rw [hν' hj] at he;exact he⟩⟩
  ·rcases hlive hb with ⟨j,hj,h⟩ | ⟨hj,h⟩
   ·exact .inl ⟨j,hj,.inr ⟨hN0 ⟨t,r,o,h⟩,by rw [hO hj] at ho;exact ho⟩⟩
   ·exact .inr ⟨hj,.inr ⟨⟨t,r,o,h⟩,by rw [hO' hj] at ho;exact ho⟩⟩
 have hapart:∀ {b j n:Nat},posN nm b=none→OwnB Γ H b n→OwnB Γ1 Ho0 j n→False:=fun {b j n} hp h h'=>by
  rcases hx.wr n h'.wr with h1 | h1
  ·exact hsep hp h h1
  ·have:=e.own_lt h;omega
 have huniq:∀ {b b' n:Nat},OwnB (Γ.back Γ1 nm) (qaq H (zipH nm Ho)) b n→OwnB (Γ.back Γ1 nm) (qaq H (zipH nm Ho)) b' n→b=b':=fun {b b' n} h h'=>by
  rcases hown h with ⟨j,hj,h1⟩ | ⟨hj,h1⟩<;>rcases hown h' with ⟨j',hj',h1'⟩ | ⟨hj',h1'⟩
  ·have:=em1.own_eq h1 h1';subst this;have g:=qf8 hj;rw [qf8 hj'] at g;cases g;rfl
  ·exact (hapart hj' h1' h1).elim
  ·exact (hapart hj h1 h1').elim
  ·exact e.own_eq h1 h1'
 have himm:∀ {b n:Nat},OwnB (Γ.back Γ1 nm) (qaq H (zipH nm Ho)) b n→¬ Γ1.I n:=fun {b n} h hI=>by
  rcases hown h with ⟨j,hj,h1⟩ | ⟨hj,h1⟩
  ·exact em1.own_imm h1 hI
  ·rcases hx.im _ hI with h2 | h2 | h2
   ·exact e.own_imm h1 h2
   ·exact hsep hj h1 h2
   ·have:=e.own_lt h1;omega
 refine ⟨⟨fun n hn hw=>hx.fr n hn fun h=>hw (hwr1 n h),hx.size,hx.os,hx.out,fun n hw=>?_,fun n hn=>?_,fun n hn=>hx.mi n hn,hA⟩,?_⟩
 ·obtain ⟨b,hb⟩:=q1d hw
  rcases hown hb with ⟨j,hj,h⟩ | ⟨hj,h⟩
  ·rcases hx.wr n h.wr with h1 | h1
   ·exact .inl (hwr1 n h1)
   ·exact .inr h1
  ·exact .inl h.wr
 ·rcases hx.im n hn with h | h | h
  ·exact .inl h
  ·exact .inr (.inl (hwr1 n h))
  ·exact .inr (.inr h)
 ·refine ⟨fun b B hB=>?_,fun b b' hb hb' hk hk' he=>huniq (.inl ⟨hb,hk,rfl⟩) (.inl ⟨hb',hk',he.symm⟩),fun b hb hk=>himm (.inl ⟨hb,hk,rfl⟩),em1.old,fun b=>?_,
   ⟨fun b b' n h h' ho ho'=>huniq (.inr ⟨h,ho⟩) (.inr ⟨h',ho'⟩),fun b b' n h h' hk ho he=>?_,fun b n h ho=>himm (.inr ⟨h,ho⟩),fun b n h ho=>?_,fun b i i' h h1 h2 h3=>?_⟩,fun m b i f hm=>?_⟩
  ·rcases hlive hB with ⟨j,hj,h⟩ | ⟨hj,h⟩
   ·obtain ⟨B0,h0,_,hr⟩:=hrn j B h;exact hr b (hν hj) (hκ hj) (hR hj) (em1.blk j B0 h0)
   ·refine RepB.mono (w:=w) (w':=w') (Γ:=Γ) (fun n h=>hx.mi n h) (fun m hm=>hx.fr m (e.old m hm) fun hc=>?_) hA (e.alive ⟨B,h⟩) (fun hk=>hx.fr _ (e.lt ⟨B,h⟩ hk) (hsep hj (.inl ⟨⟨B,h⟩,hk,rfl⟩)))
     (fun t r o hbn=>⟨hR' hj,fun n hn=>hx.fr n (e.rows.lt b n ⟨t,r,o,hbn▸h⟩ hn) (hsep hj (.inr ⟨⟨t,r,o,hbn▸h⟩,hn⟩))⟩) (e.blk b B h)
    obtain ⟨_,c,_,h2⟩:=hwr _ hc;exact e.own_imm h2 hm
  ·rw [hget]
   cases hp:posN nm b with
   | none =>
    simp only;refine Iff.trans ?_ (e.al b);exact ⟨fun h=>h.elim id fun h=>absurd h (qhb hp),.inl⟩
   | some j =>
    simp only;have h1:=qf8 hp;have hj:=qcd h1;rw [← hl] at hj;exact ⟨fun _=>⟨_,wab hj,hnf j _ (wab hj)⟩,fun _=>.inr (wbp h1)⟩
  ·have hbb:=huniq (.inr ⟨h,ho⟩) (.inl ⟨h',hk,he⟩);subst hbb;obtain ⟨t,r,o,hb⟩:=h
   rcases hlive hb with ⟨j,hj,g⟩ | ⟨hj,g⟩
   ·rw [hO hj] at ho;rw [hκ hj] at hk;rw [hν hj] at he;exact em1.rows.main j j n (hN0 ⟨t,r,o,g⟩) (hL0 g) hk ho he
   ·rw [hO' hj] at ho;rw [hκ' hj] at hk;rw [hν' hj] at he;exact e.rows.main b b n ⟨t,r,o,g⟩ ⟨_,g⟩ hk ho he
  ·rcases hown (.inr ⟨h,ho⟩) with ⟨j,hj,h1⟩ | ⟨hj,h1⟩
   ·exact em1.own_lt h1
   ·exact Nat.lt_of_lt_of_le (e.own_lt h1) hx.size
  ·obtain ⟨t,r,o,hb⟩:=h
   rcases hlive hb with ⟨j,hj,g⟩ | ⟨hj,g⟩
   ·rw [hR hj] at h1 h2 h3;exact em1.rows.one j i i' (hN0 ⟨t,r,o,g⟩) h1 h2 h3
   ·rw [hR' hj] at h1 h2 h3;exact e.rows.one b i i' ⟨t,r,o,g⟩ h1 h2 h3
  ·rw [hget] at hm;split at hm
   ·exact absurd hm (hnw _ _ _ _)
   ·rename_i hpm;obtain ⟨v1,v2,v3⟩:=e.vwA hm;refine ⟨(hA b v2).1,fun t r o hb hi=>?_⟩
    rcases hlive hb with ⟨j,hj,g⟩ | ⟨hj,g⟩
    ·exact absurd ⟨t,r,o,g⟩ (hV m b i f j hm hj)
    ·obtain ⟨_,q1,q2⟩:=hA m v1;rw [q1,q2,hR' hj];exact v3 t r o g hi
end
def SCon.eff0 (c:SCon) (H:List Hs) (base:Nat) (args:List AV):Option Ef :=
 match qid (qfx c.ins args) H c.ins c.ibl args with
 | some (ρ,p,env)=>match c.pre env,c.F env with
  | some q,some r=>match ρ++List.replicate (c.obl.length-ρ.length) none with
   | ρ'=>match qyh base ρ' with
    | nm=>match nmOk H ρ' nm && (qil nm && (Nat.beq nm.length c.obl.length && (plC c.obl.length c.outs && plB c.obl.length c.obl))) with
     | true=>some ⟨p++q,resS (stV nm c.outs c.obl (qbc _ r)),zipH nm (stB nm c.outs c.obl (qbc _ r)),qnu ρ⟩
     | false=>none
  | _,_=>none
 | none=>none
def qg1:List TB→Bool
 | []=>false
 | .nest _::_=>true
 | _::l=>qg1 l
def qop:Nat→List Hs→List (Nat×Hs)
 | _,[]=>[]
 | n,.view ..::H=>(n,.dead)::qop (n+1) H
 | n,_::H=>qop (n+1) H
def qfj (h:Hs):Hs:=match h with
 | .view ..=>.dead
 | h=>h
def SCon.eff (c:SCon) (H:List Hs) (base:Nat) (args:List AV):Option Ef:=match qg1 c.obl with
 | false=>c.eff0 H base args
 | true=>match c.eff0 (H.map qfj) base args with
  | some e=>some ⟨e.ob,e.v,qop 0 H++e.up,allN H⟩
  | none=>none
def qm2:(ts:List Ty)→List AV→Option (Dens ts)
 | [],[]=>some ()
 | t::ts,x::xs=>match asD t x,qm2 ts xs with
  | some y,some r=>some (y,r)
  | _,_=>none
 | _,_=>none
def qoq (m:Bool):(ts:List Ty)→Dens ts→Dens ts→Dens ts
 | [],_,_=>()
 | _::ts,x,y=>(cond m x.1 y.1,qoq m ts x.2 y.2)
theorem qqn:∀ {ts:List Ty} {x y:Dens ts},qoq true ts x y=x
 | [],_,_=>rfl
 | t::ts,x,y=>by simp only [qoq,wbe,qqn];rfl
theorem qn2:∀ {ts:List Ty} {x y:Dens ts},qoq false ts x y=y
 | [],_,_=>rfl
 | t::ts,x,y=>by simp only [qoq,wbd,qn2];rfl
def SCon.skip (c:SCon) (env:List AV):Option (List Prop×Dens (c.outs.flatMap TV.ts++tsB c.obl)) :=
 match qid (qu5 0 c.ibl.length) (stB (qa5 0 c.ibl.length) c.ins c.ibl env) [] c.obl [] with
 | some (ρ,q,e)=>match idOk 0 c.ibl.length ρ,qm2 (c.outs.flatMap TV.ts++tsB c.obl) (q36 (c.outs.flatMap TV.ts)++e) with
  | true,some r=>some (q,r)
  | _,_=>none
 | none=>none
def SCon.effM (c:SCon) (m:Bool) (H:List Hs) (base:Nat) (args:List AV):Option Ef:=match qg1 c.obl with
 | true=>none
 | false=>match qid (qfx c.ins args) H c.ins c.ibl args with
  | some (ρ,p,env)=>match c.pre env,c.F env,c.skip env with
    | some q,some r,some (q0,r0)=>match ρ++List.replicate (c.obl.length-ρ.length) none with
      | ρ'=>match qyh base ρ' with
        | nm=>match nmOk H ρ' nm && (qil nm && (Nat.beq nm.length c.obl.length && (plC c.obl.length c.outs && plB c.obl.length c.obl))) with
          | true=>some ⟨p++(impP (m=true) q++impP (m=false) q0),resS (stV nm c.outs c.obl (qbc _ (qoq m _ r r0))),zipH nm (stB nm c.outs c.obl (qbc _ (qoq m _ r r0))),qnu ρ⟩
          | false=>none
    | _,_,_=>none
  | none=>none
def qp3:List AV→Option (Bool×List AV)
 | .cons (.val .bool m) (.cons .nil .nil)::l=>some (m,l)
 | _=>none
def zeb:List AV→List AV
 | .cons _ _::l=>l
 | l=>l
def fitV:TV→AV→Bool
 | .v _,.sl ..=>false
 | .v _,.ref ..=>false
 | .v _,.mref _=>false
 | .v _,.fn ..=>false
 | .v _,_=>true
 | .opt _,_=>true
 | .u,_=>true
 | .sl ..,.sl ..=>true
 | .slf ..,.sl ..=>true
 | .slf ..,.vsl ..=>true
 | .ref ..,.ref ..=>true
 | .mref _,.mref _=>true
 | .fn f _,.fn g _=>Nat.beq f g
 | _,_=>false
def fitC:List TV→List AV→Bool
 | [],[]=>true
 | tv::l,x::xs=>fitV tv x && fitC l xs
 | _,_=>false
def frzB:List TV→List AV→List Nat
 | .v _::l,.sl b _ _ _ _::xs=>b::frzB l xs
 | _::l,_::xs=>frzB l xs
 | _,_=>[]
def frzA (H:List Hs):List TV→List AV→Option (List Prop×List AV)
 | [],[]=>some ([],[])
 | .v t::l,.sl b s i n c::xs=>match rvV H t (.sl b s i n c),frzA H l xs with
  | some (p,y),some (q,ys)=>some (p++q,.val t y::ys)
  | _,_=>none
 | _::l,x::xs=>match frzA H l xs with
  | some (q,ys)=>some (q,x::ys)
  | none=>none
 | _,_=>none
def qoc:List Nat→List (Nat×Hs)
 | []=>[]
 | b::l=>(b,.dead)::qoc l
def SCon.effF (c:SCon) (H:List Hs) (base:Nat) (args:List AV):Option Ef :=
 match frzB c.ins args with
 | K=>match frzA (qdm K 0 (H.map qfj)) c.ins args with
  | some (p,ys)=>match c.eff (qaq H (qoc K)) base ys with
   | some e=>some ⟨p++e.ob,e.v,qoc K++e.up,K++e.rd⟩
   | none=>none
  | none=>none
def SCon.effC (c:SCon) (H:List Hs) (base:Nat) (args:List AV):Option Ef:=match c.ins,c.ibl,c.outs,c.obl,args with
 | [.v t],[],[.slf 0 s],[.arr t' true],[.sl b s' i n cc]=>match flat t',qax H base with
  | true,true=>match rvV H t (.sl b s' i n cc) with
   | some (p,y)=>match c.pre [.val t y],c.F [.val t y] with
    | some q,some r=>some ⟨p++q,resS (stV [base] c.outs c.obl (qbc _ r)),zipH [base] (stB [base] c.outs c.obl (qbc _ r)),qbj 0 H⟩
    | _,_=>none
   | none=>none
  | _,_=>none
 | _,_,_,_,_=>none
def SCon.isCl (c:SCon) (args:List AV):Bool:=match c.ins,c.ibl,c.outs,c.obl,args with
 | [.v _],[],[.slf 0 _],[.arr t' true],[.sl ..]=>flat t'
 | _,_,_,_,_=>false
def SCon.effCF (c:SCon) (H:List Hs) (base:Nat) (args:List AV):Option Ef:=match c.isCl args with
 | true=>c.effC H base args
 | false=>c.effF H base args
def fitW:TV→AV→Bool
 | .v _,.sl ..=>true
 | tv,x=>fitV tv x
def fitK:List TV→List AV→Bool
 | [],[]=>true
 | tv::l,x::xs=>fitW tv x && fitK l xs
 | _,_=>false
def spS:List SCon→List Con→Spec
 | [],cs,f,H,base,args=>spOf cs f H base args
 | c::ss,cs,f,H,base,args=>match Nat.beq c.f f && fitC c.ins (zeb args) with
  | true=>match qp3 args with
   | some (m,l)=>match c.effM m H base l with
    | some e=>e
    | none=>.fail
   | none=>match c.eff H base args with
    | some e=>e
    | none=>.fail
  | false=>match Nat.beq c.f f && (qwc args && fitK c.ins args) with
   | true=>match c.effCF H base args with
    | some e=>e
    | none=>.fail
   | false=>spS ss cs f H base args
section
variable {w:World} {Γ:Cx} {H H':List Hs}
theorem SCon.eff0_some {c:SCon} {base:Nat} {args:List AV} {e:Ef} (h:c.eff0 H base args=some e):∃ ρ p env q r nm,qid (qfx c.ins args) H c.ins c.ibl args=some (ρ,p,env)∧c.pre env=some q∧c.F env=some r ∧
  nm=qyh base (ρ++List.replicate (c.obl.length-ρ.length) none)∧nmOk H (ρ++List.replicate (c.obl.length-ρ.length) none) nm=true∧qil nm=true∧nm.length=c.obl.length∧plC c.obl.length c.outs=true∧plB c.obl.length c.obl=true ∧
  e=⟨p++q,resS (stV nm c.outs c.obl (qbc _ r)),zipH nm (stB nm c.outs c.obl (qbc _ r)),qnu ρ⟩:=by
 unfold SCon.eff0 at h;split at h
 ·rename_i ρ p env hr;split at h
  ·rename_i q r h1 h2;simp only at h;split at h
   ·rename_i hh;cases h;simp only [wa4] at hh;exact ⟨ρ,p,env,q,r,_,hr,h1,h2,rfl,hh.1,hh.2.1,waj hh.2.2.1,hh.2.2.2.1,hh.2.2.2.2,rfl⟩
   ·cases h
  ·cases h
 ·cases h
theorem qd5 {nm:List Nat} {tvs:List TV} {bl:List TB} {env:List AV}:(stB nm tvs bl env).length=bl.length:=qb3
theorem qiw {nm lens:List Nat}:∀ {bl:List TB} {env:List AV} {j:Nat},qg1 bl=false→¬ Nest (qbh nm lens bl env) j
 | [],_,_,_,⟨t,r,o,h⟩=>by simp [qbh] at h
 | tb::bl,env,0,hn,⟨t,r,o,h⟩=>by
  simp only [qbh,wa7,wa0] at h;cases tb<;>simp [qdf,qg1] at h hn
 | tb::bl,env,j+1,hn,⟨t,r,o,h⟩=>by
  simp only [qbh,wa5] at h;have hn':qg1 bl=false:=by cases tb<;>simp [qg1] at hn ⊢<;>exact hn
  exact qiw hn' ⟨t,r,o,h⟩
theorem qrh {P:Program} {c:SCon} (hc:c.Ok P) (hvv:qg1 c.obl=false∨∀ (m b i:Nat) (f:Bool),H[m]?≠some (.view b i f)) {base:Nat} {args:List AV} {e:Ef} (he:c.eff0 H base args=some e) (hob:allP e.ob) (em:EmbH Γ H w) {vs:List Value} (hf:Fa w Γ args vs) :
  Calls P c.f vs.toArray w fun en w'=>∃ v Γ',en=.returned v∧Ext Γ H w Γ' (qaq H e.up) w'∧EmbH Γ' (qaq H e.up) w'∧Ra w' Γ' e.v v:=by
 obtain ⟨ρ,p,env,q,r,nm,hr,h1,h2,hnm0,hnm,hnd,hlen,hp1,hp2,rfl⟩:=SCon.eff0_some he;obtain ⟨hp,hq⟩:=qae.1 hob;obtain ⟨k1,k2,k3,k4,k5⟩:=qj2 em hr hp;refine Calls.mono (hc.2 _ w env q r vs k3 k2 h1 h2 hq (k5 vs hf)) fun en w' hen=>?_
 obtain ⟨v,Γ1,rfl,hx,em1,hv⟩:=hen;have hI:∀ b,Γ1.I b→(Γ.back Γ1 nm).I b:=fun _ h=>h
 have hV:∀ (m b i:Nat) (f:Bool) (j:Nat),H[m]?=some (.view b i f)→posN nm b=some j→¬ Nest (stB nm c.outs c.obl (qbc _ r)) j:=fun m b i f j hm _ hN=>by
  rcases hvv with h | h
  ·exact qiw h hN
  ·exact h m b i f hm
 have hrr:∀ j,j<c.obl.length→(Γ.back Γ1 nm).A (nmAt nm j)∧(Γ.back Γ1 nm).ν (nmAt nm j)=Γ1.ν (nmAt (qa5 0 c.obl.length) j)∧(Γ.back Γ1 nm).κ (nmAt nm j)=Γ1.κ (nmAt (qa5 0 c.obl.length) j):=fun j hj=>by
  have hj':j<nm.length:=by omega
  have hg:=wab hj';rw [qrr hg,qat hj,wa8];have hp:=qrs hnd hg;exact ⟨.inr (waq hj'),by simp only [Cx.back,hp],by simp only [Cx.back,hp]⟩
 have hve:VE (qbc _ r):=qra.ve;obtain ⟨a1,a2⟩:=zd2 em hnm hnd k4 hx em1 (Ho:=stB nm c.outs c.obl (qbc _ r)) (by rw [qd5,hlen]) (fun j x hx=>qfe hx) (fun j B hB=>by
  obtain ⟨B0,g1,g3,g2⟩:=qmq (w:=w') hI hrr hp2 hve.drop j B hB;exact ⟨B0,g1,g3,fun b' hν hκ hR hb=>g2 j b' hν hκ hR hb⟩) (fun j c i f=>qi3 hp2) hV
 refine ⟨v,_,rfl,a1,a2,?_⟩;obtain ⟨g1,g2⟩:=qmk (w:=w') (lens:=stL c.obl c.outs (qbc _ r)) hI hrr hp1 hve;exact za5 g1 g2 hv
theorem qoe:∀ {H K:List Hs},qaq (K++H) (qop K.length H)=K++H.map qfj
 | [],K=>by simp [qop,qaq]
 | h::H,K=>by
  have ih:∀ {K:List Hs},qaq (K++H) (qop K.length H)=K++H.map qfj:=qoe (H:=H);have skip:∀ h',qaq (K++h'::H) (qop (K.length+1) H)=K++h'::H.map qfj:=fun h'=>by
   have:=ih (K:=K++[h']);simpa using this
  cases h with
  | view b' i f =>
   simp only [qop,wbh,qfj,qaq];rw [List.set_append_right _ _ (wae _),Nat.sub_self,List.set_cons_zero];exact skip .dead
  | free=>exact skip _
  | dead=>exact skip _
  | live B=>exact skip _
theorem q5y:qaq H (qop 0 H)=H.map qfj:=qoe (K:=[])
theorem qdv {d:Nat} {B:Blk}:(H.map qfj)[d]?=some (.live B)↔H[d]?=some (.live B):=by
 rw [wap]
 cases h:H[d]? with
 | none=>simp
 | some x=>cases x<;>simp [qfj]
theorem qll {d b i:Nat} {f:Bool}:(H.map qfj)[d]?≠some (.view b i f):=by
 rw [wap]
 cases h:H[d]? with
 | none=>simp
 | some x=>cases x<;>simp [qfj]
theorem EmbH.killAs (e:EmbH Γ H w):EmbH Γ (H.map qfj) w∧Ext Γ H w Γ (H.map qfj) w:=by
 refine e.stepP (fun _=>False) rfl (fun _ h=>⟨h,rfl,rfl⟩) (fun d=>?_) (fun _ _ _=>rfl) (fun _ h=>h.elim) some (fun q hq h0=>.inl ⟨q,rfl,?_,h0,rfl⟩) (fun _ _ _ _ _ _ h=>by cases h;rfl)
  (fun d B hd=>.inr ⟨qdv.1 hd,fun _=>id,fun _=>⟨rfl,fun _ _=>id⟩⟩) (e.vw_keep (fun _ h=>⟨h,rfl,rfl⟩) (fun m' b' i' f' hm'=>absurd hm' qll) fun d t2 rows2 ho2 _ hd=>⟨rfl,t2,rows2,ho2,qdv.1 hd,wae _⟩) (wae _) rfl rfl
 ·rw [e.al,wap]
  cases h:H[d]? with
  | none=>simp
  | some x=>cases x<;>simp [qfj]
 ·obtain ⟨d,oo⟩:=q
  cases oo with
  | none=>obtain ⟨B,h⟩:=hq;exact ⟨B,qdv.1 h⟩
  | some j=>obtain ⟨t,r,o,h⟩:=hq;exact ⟨t,r,o,qdv.1 h⟩
theorem q20 {P:Program} {c:SCon} (hc:c.Ok P) {base:Nat} {args:List AV} {e:Ef} (he:c.eff H base args=some e) (hob:allP e.ob) (em:EmbH Γ H w) {vs:List Value} (hf:Fa w Γ args vs) :
  Calls P c.f vs.toArray w fun en w'=>∃ v Γ',en=.returned v∧Ext Γ H w Γ' (qaq H e.up) w'∧EmbH Γ' (qaq H e.up) w'∧Ra w' Γ' e.v v:=by
 unfold SCon.eff at he
 cases hn:qg1 c.obl with
 | false=>rw [hn] at he;exact qrh hc (.inl hn) he hob em hf
 | true =>
  rw [hn] at he
  cases h0:c.eff0 (H.map qfj) base args with
  | none=>rw [h0] at he;cases he
  | some e0 =>
   rw [h0] at he;cases he;obtain ⟨k1,k2⟩:=em.killAs;refine Calls.mono (qrh hc (.inr fun m b i f=>qll) h0 hob k1 hf) fun en w' hen=>?_
   obtain ⟨v,Γ',g1,g2,g3,g4⟩:=hen;have hup:qaq H (qop 0 H++e0.up)=qaq (H.map qfj) e0.up:=by rw [qf9,q5y]
   rw [hup];exact ⟨v,Γ',g1,k2.trans g2,g3,g4⟩
theorem SCon.effM_some {c:SCon} {m:Bool} {base:Nat} {args:List AV} {e:Ef} (h:c.effM m H base args=some e):qg1 c.obl=false∧∃ ρ p env q r q0 r0 nm,qid (qfx c.ins args) H c.ins c.ibl args=some (ρ,p,env)∧c.pre env=some q∧c.F env=some r∧c.skip env=some (q0,r0) ∧
  nm=qyh base (ρ++List.replicate (c.obl.length-ρ.length) none)∧nmOk H (ρ++List.replicate (c.obl.length-ρ.length) none) nm=true∧qil nm=true∧nm.length=c.obl.length∧plC c.obl.length c.outs=true∧plB c.obl.length c.obl=true ∧
  e=⟨p++(impP (m=true) q++impP (m=false) q0),resS (stV nm c.outs c.obl (qbc _ (qoq m _ r r0))),zipH nm (stB nm c.outs c.obl (qbc _ (qoq m _ r r0))),qnu ρ⟩:=by
 unfold SCon.effM at h
 cases hn:qg1 c.obl with
 | true=>rw [hn] at h;cases h
 | false =>
 rw [hn] at h;refine ⟨rfl,?_⟩;simp only at h;split at h
 ·rename_i ρ p env hr;split at h
  ·rename_i q r q0 r0 h1 h2 h3;split at h
   ·rename_i hh;cases h;simp only [wa4] at hh;exact ⟨ρ,p,env,q,r,q0,r0,_,hr,h1,h2,h3,rfl,hh.1,hh.2.1,waj hh.2.2.1,hh.2.2.2.1,hh.2.2.2.2,rfl⟩
   ·cases h
  ·cases h
 ·cases h
theorem qnq:∀ {ts:List Ty} {env:List AV} {r:Dens ts},qm2 ts env=some r→env=qbc ts r
 | [],[],r,_=>rfl
 | t::ts,x::xs,r,h=>by
  simp only [qm2] at h;split at h
  ·rename_i y r' h1 h2;cases h;have:x=.val t y:=by
    unfold asD at h1;split at h1
    ·obtain ⟨rfl,rfl⟩:=qar h1;rfl
    ·cases h1
   rw [qnq h2,this];rfl
  ·cases h
 | [],_::_,_,h=>by simp [qm2] at h
 | _::_,[],_,h=>by simp [qm2] at h
theorem q70 {c:SCon} {env:List AV} {q0:List Prop} {r0:Dens (c.outs.flatMap TV.ts++tsB c.obl)} (h:c.skip env=some (q0,r0)) (hq:allP q0) {Γ1:Cx} (em:EmbH Γ1 (stB (qa5 0 c.ibl.length) c.ins c.ibl env) w) :
  ∃ Γ2,Ext Γ1 (stB (qa5 0 c.ibl.length) c.ins c.ibl env) w Γ2 (stB (qa5 0 c.obl.length) c.outs c.obl (qbc _ r0)) w∧EmbH Γ2 (stB (qa5 0 c.obl.length) c.outs c.obl (qbc _ r0)) w:=by
 unfold SCon.skip at h;split at h
 ·rename_i ρ q e hr;split at h
  ·rename_i r hid hd;cases h;obtain ⟨k1,k2,k3,k4,k5⟩:=qj2 em hr hq;have he:=qnq hd;have hst:stB (qa5 0 c.obl.length) c.outs c.obl (qbc _ r0)=stB (qa5 0 c.obl.length) [] c.obl e:=by
    have hdr:qge (cntC c.outs) (qbc _ r0)=e:=by
     rw [← he];exact qdb ((qq4 (ts:=c.outs.flatMap TV.ts)).length.trans qnk)
    simp only [stB,stL,hdr,cntC,qge]
   rw [hst];refine ⟨Γ1.head 0 ρ noA,⟨fun _ _ _=>rfl,wae _,rfl,rfl,fun n hn=>?_,fun n hn=>.inl hn,fun n hn=>hn,fun b hb=>?_⟩,k3⟩
   ·obtain ⟨j,c',_,m2⟩:=k4 n hn;exact .inl m2.wr
   ·have hlt:b<c.ibl.length:=by
     obtain ⟨x,hx,_⟩:=(em.al b).1 hb;have:=qbi hx
     rwa [qd5] at this
    have hid':=qjr hid b hlt;rw [wa8] at hid';obtain ⟨f1,f2,f3⟩:=(Nm.head (Γ:=Γ1) (len:=0) (ρ:=ρ) (A0:=noA)).so b b hid';rw [qat (qcd hid'),wa8] at f1 f2 f3;exact ⟨f1,f2,f3⟩
  ·cases h
 ·cases h
theorem q42 {P:Program} {c:SCon} (hc:c.Ok P) {m:Bool} {base:Nat} {args:List AV} {e:Ef} (he:c.effM m H base args=some e) (hob:allP e.ob) :
  (m=true→∀ (Γ:Cx) (w:World) (vs:List Value),EmbH Γ H w→Fa w Γ args vs→Calls P c.f vs.toArray w fun en w'=>∃ v Γ',en=.returned v∧Ext Γ H w Γ' (qaq H e.up) w'∧EmbH Γ' (qaq H e.up) w'∧Ra w' Γ' e.v v) ∧
  (m=false→∀ (Γ:Cx) (w:World),EmbH Γ H w→∃ Γ',Ext Γ H w Γ' (qaq H e.up) w∧EmbH Γ' (qaq H e.up) w):=by
 obtain ⟨hnt,ρ,p,env,q,r,q0,r0,nm,hr,h1,h2,h3,hnm0,hnm,hnd,hlen,hp1,hp2,rfl⟩:=SCon.effM_some he;obtain ⟨hp,hq⟩:=qae.1 hob;obtain ⟨hq,hq0⟩:=qae.1 hq;refine ⟨fun hm Γ w vs em hf=>?_,fun hm Γ w em=>?_⟩
 ·subst hm;have hq:=qfn.1 hq rfl;rw [qqn];have he':c.eff0 H base args=some ⟨p++q,resS (stV nm c.outs c.obl (qbc _ r)),zipH nm (stB nm c.outs c.obl (qbc _ r)),qnu ρ⟩:=by
   unfold SCon.eff0;rw [hr];simp only [h1,h2];rw [← hnm0];have hb:(Nat.beq nm.length c.obl.length)=true:=by rw [hlen];exact Nat.beq_refl _
   simp only [hnm,hnd,hb,hp1,hp2,wbj]
  exact qrh hc (.inl hnt) he' (qae.2 ⟨hp,hq⟩) em hf
 ·subst hm;have hq0:=qfn.1 hq0 rfl;rw [qn2];obtain ⟨k1,k2,k3,k4,k5⟩:=qj2 em hr hp;obtain ⟨Γ1,hx,em1⟩:=q70 h3 hq0 k3;have hI:∀ b,Γ1.I b→(Γ.back Γ1 nm).I b:=fun _ h=>h
  have hrr:∀ j,j<c.obl.length→(Γ.back Γ1 nm).A (nmAt nm j)∧(Γ.back Γ1 nm).ν (nmAt nm j)=Γ1.ν (nmAt (qa5 0 c.obl.length) j)∧(Γ.back Γ1 nm).κ (nmAt nm j)=Γ1.κ (nmAt (qa5 0 c.obl.length) j):=fun j hj=>by
   have hj':j<nm.length:=by omega
   have hg:=wab hj';rw [qrr hg,qat hj,wa8];have hp:=qrs hnd hg;exact ⟨.inr (waq hj'),by simp only [Cx.back,hp],by simp only [Cx.back,hp]⟩
  have hve:VE (qbc _ r0):=qra.ve;exact ⟨_,zd2 em hnm hnd k4 hx em1 (Ho:=stB nm c.outs c.obl (qbc _ r0)) (by rw [qd5,hlen]) (fun j x hx=>qfe hx) (fun j B hB=>by
   obtain ⟨B0,g1,g3,g2⟩:=qmq (w:=w) hI hrr hp2 hve.drop j B hB;exact ⟨B0,g1,g3,fun b' hν hκ hR hb=>g2 j b' hν hκ hR hb⟩) (fun j c i f=>qi3 hp2) (fun m b i f j hm _ hN=>qiw hnt hN)⟩
theorem qry:∀ {K:List Nat},qoc K=K.map fun b=>(b,.dead)
 | []=>rfl
 | b::K=>by rw [qoc,qry];rfl
theorem qvk:∀ {tvs:List TV} {args:List AV} {vs:List Value},Fa w Γ args vs→∀ b∈frzB tvs args,Γ.A b
 | [],args,vs,hf,b,hb=>by cases args<;>simp [frzB] at hb
 | tv::l,[],vs,hf,b,hb=>by cases tv<;>simp [frzB] at hb
 | tv::l,x::xs,[],hf,b,hb=>hf.elim
 | tv::l,x::xs,v::vs,hf,b,hb=>by
  by_cases hh:∃ t b' s i n c,tv=.v t∧x=.sl b' s i n c
  ·obtain ⟨t,b',s,i,n,c,rfl,rfl⟩:=hh;simp only [frzB,List.mem_cons] at hb
   rcases hb with rfl | hb
   ·exact (qch.1 hf.1).1
   ·exact qvk hf.2 b hb
  ·have e:frzB (tv::l) (x::xs)=frzB l xs:=by
    cases tv<;>cases x<;>first | rfl | (exact absurd ⟨_,_,_,_,_,_,rfl,rfl⟩ hh)
   rw [e] at hb;exact qvk hf.2 b hb
theorem qos {tv:TV} {l:List TV} {x:AV} {xs:List AV} (hh:¬ ∃ t b' s i n c,tv=.v t∧x=.sl b' s i n c):frzA H (tv::l) (x::xs)=match frzA H l xs with
  | some (q,ys)=>some (q,x::ys)
  | none=>none:=by
 cases tv<;>cases x<;>first | rfl | (exact absurd ⟨_,_,_,_,_,_,rfl,rfl⟩ hh)
theorem qkv (em:BlkOk Γ H w) {Γz:Cx} (hI:∀ n,Jf Γ H n↔Γz.I n) (hA:∀ b,Γ.A b→Γz.A b∧Γz.ν b=Γ.ν b∧Γz.κ b=Γ.κ b):∀ {tvs:List TV} {args ys:List AV} {vs:List Value} {p:List Prop},frzA H tvs args=some (p,ys)→allP p→Fa w Γ args vs→Fa w Γz ys vs
 | [],[],ys,vs,p,h,_,hf=>by
  simp only [frzA,wa0,wa2] at h;obtain ⟨_,rfl⟩:=h
  cases vs with
  | nil=>exact trivial
  | cons=>exact hf.elim
 | [],_::_,ys,vs,p,h,_,_=>by simp [frzA] at h
 | tv::l,[],ys,vs,p,h,_,_=>by cases tv<;>simp [frzA] at h
 | tv::l,x::xs,ys,[],p,h,_,hf=>hf.elim
 | tv::l,x::xs,ys,v::vs,p,h,hp,hf=>by
  by_cases hh:∃ t b' s i n c,tv=.v t∧x=.sl b' s i n c
  ·obtain ⟨t,b',s,i,n,c,rfl,rfl⟩:=hh;simp only [frzA] at h;split at h
   ·rename_i p1 y q ys' h1 h2;cases h;obtain ⟨hp1,hp2⟩:=qae.1 hp;refine ⟨Ra_val.2 ?_,qkv em hI hA h2 hp2 hf.2⟩;obtain ⟨cs,c1,c2⟩:=qf7 em h1 hp1 hf.1;exact ⟨cs,RepC.mono (fun b hb=>(hI b).1 hb) (fun _ _=>rfl) _ _ _ c1,c2⟩
   ·cases h
  ·rw [qos hh] at h;split at h
   ·rename_i q ys' h2;cases h;exact ⟨Rp.mono (fun b hb=>(hI b).1 (.inl hb)) (fun _ _=>rfl) hA _ _ hf.1,qkv em hI hA h2 hp hf.2⟩
   ·cases h
theorem SCon.effF_some {c:SCon} {base:Nat} {args:List AV} {e:Ef} (h:c.effF H base args=some e):∃ p ys e0,frzA (qdm (frzB c.ins args) 0 (H.map qfj)) c.ins args=some (p,ys)∧c.eff (qaq H (qoc (frzB c.ins args))) base ys=some e0 ∧
  e=⟨p++e0.ob,e0.v,qoc (frzB c.ins args)++e0.up,frzB c.ins args++e0.rd⟩:=by
 simp only [SCon.effF] at h;split at h
 ·rename_i p ys h1;split at h
  ·rename_i e0 h2;cases h;exact ⟨p,ys,e0,h1,h2,rfl⟩
  ·cases h
 ·cases h
theorem q98 {K:List Nat} {n:Nat}:Jf Γ (qdm K 0 (H.map qfj)) n↔Jf Γ (qdm K 0 H) n:=by
 have hl:∀ {b:Nat} {B:Blk},(qdm K 0 (H.map qfj))[b]?=some (.live B)↔(qdm K 0 H)[b]?=some (.live B):=fun {b B}=>by
  constructor
  ·intro h;obtain ⟨h1,h2⟩:=qbe h;rw [qdl,qdv.1 h1];simp [qh1.2 h2]
  ·intro h;obtain ⟨h1,h2⟩:=qbe h;rw [qdl,qdv.2 h1];simp [qh1.2 h2]
 refine or_congr Iff.rfl ⟨fun h=>h.sub fun b B h=>hl.1 h,fun h=>h.sub fun b B h=>hl.2 h⟩
theorem q6p {P:Program} {c:SCon} (hc:c.Ok P) {base:Nat} {args:List AV} {e:Ef} (he:c.effF H base args=some e) (hob:allP e.ob) (em:EmbH Γ H w) {vs:List Value} (hf:Fa w Γ args vs) :
  Calls P c.f vs.toArray w fun en w'=>∃ v Γ',en=.returned v∧Ext Γ H w Γ' (qaq H e.up) w'∧EmbH Γ' (qaq H e.up) w'∧Ra w' Γ' e.v v:=by
 obtain ⟨p,ys,e0,h1,h2,rfl⟩:=SCon.effF_some he;obtain ⟨hp,hq⟩:=qae.1 hob;generalize hK:frzB c.ins args=K at h1 h2 ⊢;have hKA:∀ b∈K,Γ.A b:=fun b hb=>qvk hf b (by rw [hK];exact hb)
 obtain ⟨x1,em1⟩:=qnw (K:=K) (I:=Jf Γ (qdm K 0 H)) em hKA (fun _ _=>rfl) (wae _) rfl rfl (fun _ h=>.inl h) (fun n hn=>.inl hn) (fun n hn=>by
  rcases hn with h | hw
  ·exact em.old n h
  ·obtain ⟨c,hc⟩:=q1d (hw.sub fun _ _ h=>(qbe h).1)
   exact em.own_lt hc)
 rw [← qry] at x1 em1;have hfz:Fa w { Γ with I:=Jf Γ (qdm K 0 H) } ys vs:=qkv (Γz:={ Γ with I:=Jf Γ (qdm K 0 H) }) (qrz (K:=K) em.killAs.1).blkOk (fun n=>q98) (fun b hb=>⟨hb,rfl,rfl⟩) h1 hp hf
 refine Calls.mono (q20 hc h2 hq em1 hfz) fun en w' hen=>?_
 obtain ⟨v,Γ',rfl,g1,g2,g3⟩:=hen;simp only [qf9];exact ⟨v,Γ',rfl,x1.trans g1,g2,g3⟩
theorem SCon.effC_some {c:SCon} {base:Nat} {args:List AV} {e:Ef} (h:c.effC H base args=some e):∃ t s t' b s' i n cc p y q r,c.ins=[.v t]∧c.ibl=[]∧c.outs=[.slf 0 s]∧c.obl=[.arr t' true]∧args=[.sl b s' i n cc]∧flat t'=true∧qax H base=true∧rvV H t (.sl b s' i n cc)=some (p,y) ∧
  c.pre [.val t y]=some q∧c.F [.val t y]=some r∧e=⟨p++q,resS (stV [base] c.outs c.obl (qbc _ r)),zipH [base] (stB [base] c.outs c.obl (qbc _ r)),qbj 0 H⟩:=by
 unfold SCon.effC at h;split at h
 ·rename_i t s t' b s' i n cc h1 h2 h3 h4;split at h
  ·rename_i h5 h6;split at h
   ·rename_i p y h7;split at h
    ·rename_i q r h8 h9;cases h;exact ⟨t,s,t',b,s',i,n,cc,p,y,q,r,h1,h2,h3,h4,rfl,h5,h6,h7,h8,h9,rfl⟩
    ·cases h
   ·cases h
  ·cases h
 ·cases h
theorem q5u {P:Program} {c:SCon} (hc:c.Ok P) {base:Nat} {args:List AV} {e:Ef} (he:c.effC H base args=some e) (hob:allP e.ob) (em:EmbH Γ H w) {vs:List Value} (hf:Fa w Γ args vs) :
  Calls P c.f vs.toArray w fun en w'=>∃ v Γ',en=.returned v∧Ext Γ H w Γ' (qaq H e.up) w'∧EmbH Γ' (qaq H e.up) w'∧Ra w' Γ' e.v v:=by
 obtain ⟨t,s,t',b,s',i,n,cc,p,y,q,r,h1,h2,h3,h4,rfl,hfl,hfr,hrv,hpre,hF,rfl⟩:=SCon.effC_some he;obtain ⟨f,ins,ibl,outs,obl,pre,F⟩:=c;simp only at h1 h2 h3 h4 hpre hF hob;subst h1;subst h2;subst h3;subst h4;obtain ⟨hp,hq⟩:=qae.1 hob;obtain ⟨v,rfl,hv⟩:=qfg hf;have hy:Ra w (Γ.freeze H) (.val t y) v:=Ra_val.2 (qf7 em.blkOk hrv hp hv);have hk:=qbr hfr;refine Calls.mono (hc.2 (Γ.freeze H) w [.val t y] q r [v] (qia em) ⟨⟨y,rfl⟩,trivial⟩ hpre hF hq ⟨hy,trivial⟩) fun en w' hen=>?_
 obtain ⟨v',Γ1,rfl,hx,em1,hr⟩:=hen;have hfrz:∀ n,n<w.heap.size→w'.heap[n]?=w.heap[n]?:=fun n hn=>hx.fr n hn ql5
 obtain ⟨xs,u⟩:=r;have e1:stB (qa5 0 1) [TV.slf 0 s] [TB.arr t' true] (qbc (List.flatMap TV.ts [TV.slf 0 s]++tsB [TB.arr t' true]) (xs,u))=[.live (.arr t' xs true)]:=congrArg (fun l=>[Hs.live (Blk.arr t' l true)]) (qbn (t:=t') (ys:=xs))
 have e2:stB [base] [TV.slf 0 s] [TB.arr t' true] (qbc (List.flatMap TV.ts [TV.slf 0 s]++tsB [TB.arr t' true]) (xs,u))=[.live (.arr t' xs true)]:=congrArg (fun l=>[Hs.live (Blk.arr t' l true)]) (qbn (t:=t') (ys:=xs))
 have e3:resS (stV (qa5 0 1) [TV.slf 0 s] [TB.arr t' true] (qbc (List.flatMap TV.ts [TV.slf 0 s]++tsB [TB.arr t' true]) (xs,u)))=.sl 0 s 0 (List.length (α:=Den t') xs) none:=congrArg (fun l=>AV.sl 0 s 0 (List.length (α:=Den t') l) none) (qbn (t:=t') (ys:=xs))
 have e4:resS (stV [base] [TV.slf 0 s] [TB.arr t' true] (qbc (List.flatMap TV.ts [TV.slf 0 s]++tsB [TB.arr t' true]) (xs,u)))=.sl base s 0 (List.length (α:=Den t') xs) none:=congrArg (fun l=>AV.sl base s 0 (List.length (α:=Den t') l) none) (qbn (t:=t') (ys:=xs))
 have hx':Ext (Γ.freeze H) [] w Γ1 [.live (.arr t' xs true)] w':=by rw [← e1];exact hx
 have em1':EmbH Γ1 [.live (.arr t' xs true)] w':=by rw [← e1];exact em1
 have hr':Ra w' Γ1 (.sl 0 s 0 (List.length (α:=Den t') xs) none) v':=by rw [← e3];exact hr
 have hL:Live [.live (.arr t' xs true)] 0:=⟨_,rfl⟩;have hB:=em1'.blk 0 _ rfl;have hB':RepB w' (Γ.new base (Γ1.ν 0) (Γ1.κ 0)) base (.arr t' xs true):=by
  simp only [RepB,Cx.new,qas] at hB ⊢;obtain ⟨b1,b2,b3⟩:=hB;refine ⟨b1,b2,fun hk=>?_⟩
  obtain ⟨c,el,g1,g2,g3⟩:=b3 hk;refine ⟨c,el,g1,g2,fun i x hx=>?_⟩
  obtain ⟨cs,m1,m2⟩:=g3 i x hx;exact ⟨cs,qmm hfl m1,m2⟩
 obtain ⟨g1,g2⟩:=em.fresh (w':=w') (N:=Γ1.ν 0) (C:=Γ1.κ 0) hk (fun h0=>⟨by
  rcases hx'.wr (Γ1.ν 0) (.inl ⟨0,hL,h0,rfl⟩) with h | h
  ·exact absurd h ql5
  ·exact h,em1'.lt hL h0⟩) hfrz hx.size hx.os hx.out hB' (by intro _ _ _ h;cases h)
 have hup:qaq H (zipH [base] (stB [base] [TV.slf 0 s] [TB.arr t' true] (qbc (List.flatMap TV.ts [TV.slf 0 s]++tsB [TB.arr t' true]) (xs,u))))=H.set base (.live (.arr t' xs true)):=by rw [e2];rfl
 refine ⟨v',Γ.new base (Γ1.ν 0) (Γ1.κ 0),rfl,?_,?_,?_⟩
 ·show Ext Γ H w _ (qaq H (zipH [base] (stB [base] [TV.slf 0 s] [TB.arr t' true] (qbc (List.flatMap TV.ts [TV.slf 0 s]++tsB [TB.arr t' true]) (xs,u))))) w';rw [hup];exact g2
 ·show EmbH _ (qaq H (zipH [base] (stB [base] [TV.slf 0 s] [TB.arr t' true] (qbc (List.flatMap TV.ts [TV.slf 0 s]++tsB [TB.arr t' true]) (xs,u))))) w';rw [hup];exact g1
 ·show Ra w' _ (resS (stV [base] [TV.slf 0 s] [TB.arr t' true] (qbc (List.flatMap TV.ts [TV.slf 0 s]++tsB [TB.arr t' true]) (xs,u)))) v';rw [e4];obtain ⟨_,ad,cap,k1,k2,k3,k4⟩:=qch.1 hr';exact qch.2 ⟨.inr rfl,ad,cap,k1,by simpa [Cx.new,upd] using k2,by simpa [Cx.new,upd] using k3,k4⟩
theorem q2v {P:Program} {c:SCon} (hc:c.Ok P) {base:Nat} {args:List AV} {e:Ef} (he:c.effCF H base args=some e) (hob:allP e.ob) (em:EmbH Γ H w) {vs:List Value} (hf:Fa w Γ args vs) :
  Calls P c.f vs.toArray w fun en w'=>∃ v Γ',en=.returned v∧Ext Γ H w Γ' (qaq H e.up) w'∧EmbH Γ' (qaq H e.up) w'∧Ra w' Γ' e.v v:=by
 unfold SCon.effCF at he;split at he
 ·exact q5u hc he hob em hf
 ·exact q6p hc he hob em hf
theorem qe6 {j b:Nat}:∀ {l r:List (Nat×Nat)},qju j l=some b→qju j (l++r)=some b
 | [],r,h=>by simp [qju] at h
 | p::l,r,h=>by
  simp only [wbf,qju] at h ⊢;split
  ·rename_i hh;rw [if_pos hh] at h;exact h
  ·rename_i hh;rw [if_neg hh] at h;exact qe6 h
theorem qe2:∀ {bl:List TB} {j:Nat} {acc:List (Nat×Nat)},∃ t,qdk H j bl acc=acc++t
 | [],j,acc=>⟨[],by simp [qdk]⟩
 | tb::bl,j,acc=>by
  cases tb with
  | cells l =>
   simp only [qdk];split
   ·split
    ·rename_i vs _;obtain ⟨t,ht⟩:=qe2 (bl:=bl) (j:=j+1) (acc:=acc++qfx l vs);exact ⟨qfx l vs++t,by rw [ht,wat]⟩
    ·exact ⟨[],by simp⟩
   ·exact ⟨[],by simp⟩
  | mix l t =>
   simp only [qdk];split
   ·split
    ·rename_i vs _ _ _;obtain ⟨t,ht⟩:=qe2 (bl:=bl) (j:=j+1) (acc:=acc++qfx l vs);exact ⟨qfx l vs++t,by rw [ht,wat]⟩
    ·exact ⟨[],by simp⟩
   ·exact ⟨[],by simp⟩
  | view k =>
   simp only [qdk];split
   ·split
    ·rename_i c _ _ _;obtain ⟨t,ht⟩:=qe2 (bl:=bl) (j:=j+1) (acc:=acc++[(k,c)]);exact ⟨[(k,c)]++t,by rw [ht,wat]⟩
    ·exact ⟨[],by simp⟩
   ·exact ⟨[],by simp⟩
  | _=>simp only [qdk];exact qe2
theorem qe3:∀ {bl:List TB} {j:Nat} {acc:List (Nat×Nat)},(∀ i b,j≤i→i<j+bl.length→qju i (qdk H j bl acc)=some b→H'[b]?=H[b]?)→qdk H' j bl acc=qdk H j bl acc
 | [],j,acc,_=>by simp only [qdk]
 | tb::bl,j,acc,h=>by
  cases tb with
  | cells l =>
   simp only [qdk] at h ⊢
   cases hl:qju j acc with
   | none=>rfl
   | some b =>
    have hb:H'[b]?=H[b]?:=by
     refine h j b (wae _) (by simp) ?_
     rw [hl];simp only;split
     ·rename_i vs _;obtain ⟨t,ht⟩:=qe2 (H:=H) (bl:=bl) (j:=j+1) (acc:=acc++qfx l vs);rw [ht];exact qe6 (qe6 hl)
     ·exact hl
    simp only [hl] at h;simp only [qaw hb];split
    ·rename_i vs hvs;rw [hvs] at h;exact qe3 fun i b h1 h2 h3=>h i b (by omega) (by simp only [wa6];omega) h3
    ·rfl
  | mix l t =>
   simp only [qdk] at h ⊢
   cases hl:qju j acc with
   | none=>rfl
   | some b =>
    have hb:H'[b]?=H[b]?:=by
     refine h j b (wae _) (by simp) ?_
     rw [hl];simp only;split
     ·rename_i vs _ _ _;obtain ⟨t,ht⟩:=qe2 (H:=H) (bl:=bl) (j:=j+1) (acc:=acc++qfx l vs);rw [ht];exact qe6 (qe6 hl)
     ·exact hl
    simp only [hl] at h;simp only [qaw hb];split
    ·rename_i vs _ _ hvs;rw [hvs] at h;exact qe3 fun i b h1 h2 h3=>h i b (by omega) (by simp only [wa6];omega) h3
    ·rfl
  | view k =>
   simp only [qdk] at h ⊢
   cases hl:qju j acc with
   | none=>rfl
   | some b =>
    have hb:H'[b]?=H[b]?:=by
     refine h j b (wae _) (by simp) ?_
     rw [hl];simp only;split
     ·rename_i c _ _ _;obtain ⟨t,ht⟩:=qe2 (H:=H) (bl:=bl) (j:=j+1) (acc:=acc++[(k,c)]);rw [ht];exact qe6 (qe6 hl)
     ·exact hl
    simp only [hl] at h;simp only [hb];split
    ·rename_i c i f hvs;rw [hvs] at h;exact qe3 fun i b h1 h2 h3=>h i b (by omega) (by simp only [wa6];omega) h3
    ·rfl
  | _ =>
   simp only [qdk] at h ⊢;exact qe3 fun i b h1 h2 h3=>h i b (by omega) (by simp only [wa6];omega) h3
theorem qwt:∀ {bl:List TB} {acc:List (Nat×Nat)} {j i:Nat},i<bl.length→(rhoL acc j bl)[i]?=some (qju (j+i) acc)
 | [],acc,j,i,h=>by simp at h
 | tb::bl,acc,j,0,h=>by simp [rhoL]
 | tb::bl,acc,j,i+1,h=>by
  simp only [rhoL,wa5];rw [qwt (by simpa using h)]
  congr 2;omega
section
variable {ρ:List (Option Nat)} {lens:List Nat}
theorem qe0 (h:∀ (j b:Nat),ρ[j]?=some (some b)→H'[b]?=H[b]?):∀ {tv:TV} {x:AV},qb9 ρ H' lens tv x=qb9 ρ H lens tv x
 | .u,x=>by simp only [qb9]
 | .v t,x=>by cases t<;>simp only [qb9]
 | .sl j s i,x=>by
  cases x<;>simp only [qb9]
  rename_i b s' i' len c;split
  ·rename_i hh
   cases c with
   | none=>rfl
   | some c=>simp only [qaw (h _ _ (qem hh.1))]
  ·rfl
 | .slf j s,x=>by
  cases x<;>simp only [qb9]
  rename_i b s' i' len c;split
  ·rename_i hh
   cases c with
   | none=>rfl
   | some c=>simp only [qaw (h _ _ (qem hh.1))]
  ·rfl
 | .ref j s i o,x=>by cases x<;>simp only [qb9]
 | .mref j,x=>by cases x<;>simp only [qb9]
 | .fn f c,x=>by
  cases x<;>simp only [qb9]
  rw [qe0 h]
 | .nil,x=>by cases x<;>simp only [qb9]
 | .cons a l,x=>by
  cases x<;>simp only [qb9]
  rw [qe0 h,qe0 h]
 | .opt tv,x=>by
  have ih:=fun x=>qe0 h (tv:=tv) (x:=x)
  cases x<;>simp only [qb9,ih]
theorem qgk (h:∀ (j b:Nat),ρ[j]?=some (some b)→H'[b]?=H[b]?):∀ {l:List TV} {xs:List AV},qfv ρ H' lens l xs=qfv ρ H lens l xs
 | [],[]=>by simp only [qfv]
 | tv::l,x::xs=>by simp only [qfv];rw [qe0 h,qgk h]
 | [],_::_=>by simp only [qfv]
 | _::_,[]=>by simp only [qfv]
theorem qui (h:∀ (j b:Nat),ρ[j]?=some (some b)→H'[b]?=H[b]?) {o:Option Nat} (ho:∀ b,o=some b→H'[b]?=H[b]?) {tb:TB}:qcf ρ H' lens o tb=qcf ρ H lens o tb:=by
 cases o with
 | none=>cases tb<;>simp only [qcf]
 | some b =>
  cases tb<;>simp only [qcf,qaw (ho b rfl)]
  ·split
   ·exact qgk h
   ·rfl
  ·rename_i j;rw [ho b rfl];split
   ·rename_i c i hc
    cases ha:isAt ρ j c with
    | false=>rfl
    | true=>simp only [qaw (h _ _ (qem ha))]
   ·rfl
  ·simp only [qgk h]
theorem qlv (h:∀ (j b:Nat),ρ[j]?=some (some b)→H'[b]?=H[b]?):∀ {bs:List (Option Nat)} {bl:List TB},(∀ (j:Nat) (b:Nat),bs[j]?=some (some b)→H'[b]?=H[b]?)→qck ρ H' lens bs bl=qck ρ H lens bs bl
 | [],[],_=>by simp only [qck]
 | o::bs,tb::bl,hb=>by
  simp only [qck];rw [qui h (fun b e=>hb 0 b (by simp [e])),qlv h fun j b hj=>hb (j+1) b (by simpa using hj)]
 | [],_::_,_=>by simp only [qck]
 | _::_,[],_=>by simp only [qck]
theorem qnl:∀ {bs:List (Option Nat)} {bl:List TB},(∀ (j:Nat) (b:Nat),bs[j]?=some (some b)→H'[b]?=H[b]?)→qfi H' bs bl=qfi H bs bl
 | [],[],_=>by simp only [qfi]
 | o::bs,tb::bl,hb=>by
  simp only [qfi];rw [qnl fun j b hj=>hb (j+1) b (by simpa using hj)]
  congr 1
  cases o with
  | none=>cases tb<;>rfl
  | some b =>
   cases tb<;>try rfl
   ·simp only [qaw (hb 0 b rfl)]
   ·simp only [qaw (hb 0 b rfl)]
 | [],_::_,_=>by simp only [qfi]
 | _::_,[],_=>by simp only [qfi]
end
theorem qm9 {b:Nat}:∀ {ρ:List (Option Nat)} {j:Nat},ρ[j]?=some (some b)→b∈qnu ρ
 | [],j,h=>by simp at h
 | o::ρ,0,h=>by simp at h;subst h;simp [qnu]
 | o::ρ,j+1,h=>by
  have:=qm9 (ρ:=ρ) (j:=j) (by simpa using h)
  cases o<;>simp [qnu,this]
theorem qn6 {acc:List (Nat×Nat)} {tvs:List TV} {bl:List TB} {xs:List AV} (h:∀ b∈qnu (rhoL (qdk H 0 bl acc) 0 bl),H'[b]?=H[b]?):qid acc H' tvs bl xs=qid acc H tvs bl xs:=by
 have e1:qdk H' 0 bl acc=qdk H 0 bl acc:=qe3 fun i b _ hi hl=>by
  refine h b (qm9 (j:=i) ?_);rw [qwt (by omega),wa8,hl]
 have h':∀ (j b:Nat),(rhoL (qdk H 0 bl acc) 0 bl)[j]?=some (some b)→H'[b]?=H[b]?:=fun j b hj=>h b (qm9 hj)
 simp only [qid,e1];rw [qnl h',qgk h',qlv h' h']
theorem qib:∀ {ρ:List (Option Nat)} {nm:List Nat},(∀ n∈nm,H'[n]?=H[n]?)→nmOk H' ρ nm=nmOk H ρ nm
 | [],[],_=>by simp only [nmOk]
 | none::ρ,n::nm,h=>by
  simp only [nmOk];rw [qa6 (h n (by simp)),qib fun m hm=>h m (by simp [hm])]
 | some b::ρ,n::nm,h=>by
  have h1:quk H' n=quk H n:=by unfold quk;rw [h n (by simp)]
  simp only [nmOk,h1];rw [qib fun m hm=>h m (by simp [hm])]
 | [],_::_,_=>by simp only [nmOk]
 | none::_,[],_=>by simp only [nmOk]
 | some _::_,[],_=>by simp only [nmOk]
theorem qma {n:Nat}:∀ {nm:List Nat} {hs:List Hs},nm.length=hs.length→n∈nm→∃ h,(n,h)∈zipH nm hs
 | x::nm,h::hs,hl,hn=>by
  rcases List.mem_cons.1 hn with rfl | hn
  ·exact ⟨h,by simp [zipH]⟩
  ·obtain ⟨h',hh⟩:=qma (hs:=hs) (by simpa using hl) hn
   exact ⟨h',by simp [zipH,hh]⟩
 | x::nm,[],hl,_=>by simp at hl
 | [],_,_,hn=>by cases hn
theorem SCon.eff0_frame {c:SCon} {base:Nat} {args:List AV} {e:Ef} (h:c.eff0 H base args=some e) (ha:qeq H H' e):c.eff0 H' base args=some e:=by
 have h0:=h;obtain ⟨ρ,p,env,q,r,nm,hr,h1,h2,hnm0,hnm,hnd,hlen,hp1,hp2,rfl⟩:=SCon.eff0_some h;have hρ:ρ=rhoL (qdk H 0 c.ibl (qfx c.ins args)) 0 c.ibl:=by
  obtain ⟨_,_,_,_,h,_⟩:=qk2 hr;exact h
 have key:qid (qfx c.ins args) H' c.ins c.ibl args=qid (qfx c.ins args) H c.ins c.ibl args:=qn6 fun b hb=>ha.1 b (by rw [hρ];exact hb)
 have hn:∀ n∈nm,H'[n]?=H[n]?:=fun n hn=>by
  obtain ⟨x,hx⟩:=qma (hs:=stB nm c.outs c.obl (qbc _ r)) (by rw [qd5,hlen]) hn
  exact ha.2 _ hx
 unfold SCon.eff0 at h0 ⊢;rw [key,hr] at *;simp only [h1,h2] at h0 ⊢;rw [← hnm0] at h0 ⊢;rw [qib hn];exact h0
theorem SCon.eff_frame {c:SCon} {base:Nat} {args:List AV} {e:Ef} (h:c.eff H base args=some e) (ha:qeq H H' e):c.eff H' base args=some e:=by
 unfold SCon.eff at h ⊢
 cases hn:qg1 c.obl with
 | false=>rw [hn] at h;exact SCon.eff0_frame h ha
 | true =>
  rw [hn] at h
  cases h0:c.eff0 (H.map qfj) base args with
  | none=>rw [h0] at h;cases h
  | some e0 =>
   rw [h0] at h;cases h;rw [q25 ha.1];simp only [h0]
theorem SCon.effM_frame {c:SCon} {m:Bool} {base:Nat} {args:List AV} {e:Ef} (h:c.effM m H base args=some e) (ha:qeq H H' e):c.effM m H' base args=some e:=by
 have h0:=h;obtain ⟨hnt,ρ,p,env,q,r,q0,r0,nm,hr,h1,h2,h3,hnm0,hnm,hnd,hlen,hp1,hp2,rfl⟩:=SCon.effM_some h;have hρ:ρ=rhoL (qdk H 0 c.ibl (qfx c.ins args)) 0 c.ibl:=by
  obtain ⟨_,_,_,_,h,_⟩:=qk2 hr;exact h
 have key:qid (qfx c.ins args) H' c.ins c.ibl args=qid (qfx c.ins args) H c.ins c.ibl args:=qn6 fun b hb=>ha.1 b (by rw [hρ];exact hb)
 have hn:∀ n∈nm,H'[n]?=H[n]?:=fun n hn=>by
  obtain ⟨x,hx⟩:=qma (hs:=stB nm c.outs c.obl (qbc _ (qoq m _ r r0))) (by rw [qd5,hlen]) hn
  exact ha.2 _ hx
 unfold SCon.effM at h0 ⊢;rw [hnt] at h0 ⊢;simp only at h0 ⊢;rw [key,hr] at *;simp only [h1,h2,h3] at h0 ⊢;rw [← hnm0] at h0 ⊢;rw [qib hn];exact h0
theorem Lives.rvV_mask {K:List Nat} (h:∀ b∈K,H'[b]?=H[b]?):Lives (qdm K 0 (H.map qfj)) (qdm K 0 (H'.map qfj)):=by
 refine ⟨fun b B hB=>?_,fun m b i f hm=>absurd (qkk hm) qll⟩
 obtain ⟨g1,g2⟩:=qbe (qav hB);have g3:=h b g2;have g4:=qdv.1 g1;rw [← g3] at g4;simp only [hget];rw [qdl,qdv.2 g4];simp [qh1.2 g2]
theorem qm5 (h:Lives H H'):∀ {tvs:List TV} {args:List AV} {r:List Prop×List AV},frzA H tvs args=some r→frzA H' tvs args=some r
 | [],[],r,h1=>by simpa only [frzA] using h1
 | [],_::_,r,h1=>by simp [frzA] at h1
 | tv::l,[],r,h1=>by cases tv<;>simp [frzA] at h1
 | tv::l,x::xs,r,h1=>by
  by_cases hh:∃ t b' s i n c,tv=.v t∧x=.sl b' s i n c
  ·obtain ⟨t,b',s,i,n,c,rfl,rfl⟩:=hh;simp only [frzA] at h1 ⊢;split at h1
   ·rename_i p1 y q ys' k1 k2;have k1':rvV H' t (.sl b' s i n c)=some (p1,y):=by
     unfold rvV at k1 ⊢;split at k1
     ·rename_i ha;rw [if_pos ha];exact k1
     ·rename_i ha;rw [if_neg ha];exact qf3 h _ _ _ k1
    rw [k1',qm5 h k2];exact h1
   ·cases h1
  ·rw [qos hh] at h1 ⊢;split at h1
   ·rename_i q ys' k2;rw [qm5 h k2];exact h1
   ·cases h1
theorem SCon.effF_frame {c:SCon} {base:Nat} {args:List AV} {e:Ef} (h:c.effF H base args=some e) (ha:qeq H H' e):c.effF H' base args=some e:=by
 obtain ⟨p,ys,e0,h1,h2,rfl⟩:=SCon.effF_some h;have hK:∀ b∈frzB c.ins args,H'[b]?=H[b]?:=fun b hb=>ha.1 b (wbn _ hb)
 have hput:∀ b,H'[b]?=H[b]?→(qaq H' (qoc (frzB c.ins args)))[b]?=(qaq H (qoc (frzB c.ins args)))[b]?:=fun b hb=>by
  have hl:b<H'.length↔b<H.length:=by
   rcases Nat.lt_or_ge b H.length with h | h
   ·rw [wab h] at hb;exact ⟨fun _=>h,fun _=>(List.getElem?_eq_some_iff.1 hb).1⟩
   ·rw [wac h] at hb;have:=List.getElem?_eq_none_iff.1 hb;omega
  rw [qry,qhs,qhs,hb];simp only [hl]
 have ha0:qeq (qaq H (qoc (frzB c.ins args))) (qaq H' (qoc (frzB c.ins args))) e0:=⟨fun b hb=>hput b (ha.1 b (wbo _ hb)),fun q hq=>hput q.1 (ha.2 q (wbo _ hq))⟩
 have k1:=qm5 (Lives.rvV_mask hK) h1;have k2:=SCon.eff_frame h2 ha0;simp only [SCon.effF,k1,k2]
theorem SCon.effC_frame {c:SCon} {base:Nat} {args:List AV} {e:Ef} (h:c.effC H base args=some e) (ha:qeq H H' e):∃ e',c.effC H' base args=some e'∧Ef.sim e e':=by
 obtain ⟨t,s,t',b,s',i,n,cc,p,y,q,r,h1,h2,h3,h4,rfl,hfl,hfr,hrv,hpre,hF,rfl⟩:=SCon.effC_some h;have hl:Lives H H':=qka rfl ha.1;have hr':rvV H' t (.sl b s' i n cc)=some (p,y):=by
  unfold rvV at hrv ⊢;split at hrv
  ·rename_i ha;rw [if_pos ha];exact hrv
  ·rename_i ha;rw [if_neg ha];exact qf3 hl _ _ _ hrv
 have hb:qax H' base=qax H base:=by
  obtain ⟨x,hx⟩:=qma (nm:=[base]) (hs:=stB [base] c.outs c.obl (qbc _ r)) (by rw [qd5,h4];rfl) (waz ..)
  exact qa6 (ha.2 _ hx)
 obtain ⟨f,ins,ibl,outs,obl,pre,F⟩:=c;simp only at h1 h2 h3 h4 hpre hF;subst h1;subst h2;subst h3;subst h4;unfold SCon.effC;simp only [hfl,hb,hfr,hr',hpre,hF];exact ⟨_,rfl,rfl,rfl,rfl⟩
theorem SCon.effCF_frame {c:SCon} {base:Nat} {args:List AV} {e:Ef} (h:c.effCF H base args=some e) (ha:qeq H H' e):∃ e',c.effCF H' base args=some e'∧Ef.sim e e':=by
 unfold SCon.effCF at h ⊢;split at h
 ·rename_i hc;exact SCon.effC_frame h ha
 ·rename_i hc;exact ⟨e,SCon.effF_frame h ha,Ef.sim.refl _⟩
theorem q3v {args:List AV} {m:Bool} {l:List AV} (h:qp3 args=some (m,l)):args=mark m::l:=by
 unfold qp3 at h;split at h
 ·cases h;rfl
 ·cases h
theorem q7v {w:World} {Γ:Cx} {m:Bool} {l:List AV} {vs:List Value} (h:Fa w Γ (mark m::l) vs):False:=by
 cases vs with
 | nil=>exact h.elim
 | cons v vs =>
  have h:=h.1;simp only [mark,Ra,Rp,wa1] at h;obtain ⟨_,us,⟨_,h1⟩,_,_,us',h2,_⟩:=h;rw [← h1] at h2;cases h2
theorem qxm {P:Program} {cs:List Con} (hc:∀ c∈cs,c.Ok P):∀ {ss:List SCon},(∀ c∈ss,c.Ok P)→∀ (f:FuncId) (H:List Hs) (base:Nat) (args:List AV),allP (spS ss cs f H base args).ob→qbw P f=true ∧
  ∀ (Γ:Cx) (w:World) (vs:List Value),EmbH Γ H w→Fa w Γ args vs →
   Calls P f vs.toArray w fun en w'=>∃ v Γ',en=.returned v∧Ext Γ H w Γ' (qaq H (spS ss cs f H base args).up) w'∧EmbH Γ' (qaq H (spS ss cs f H base args).up) w'∧Ra w' Γ' (spS ss cs f H base args).v v
 | [],_=>(qze hc).ok
 | c::ss,h=>fun f H base args hob=>by
  simp only [spS] at hob ⊢;split at hob
  ·rename_i hh;have hcf:c.f=f:=by
    simp only [wa4] at hh;exact waj hh.1
   subst hcf;have hc:=h c (waz ..)
   cases hm:qp3 args with
   | some x =>
    obtain ⟨m,l⟩:=x;refine ⟨hc.1,fun Γ w vs em hf=>?_⟩
    rw [q3v hm] at hf;exact (q7v hf).elim
   | none =>
    rw [hm] at hob;simp only at hob ⊢
    cases he:c.eff H base args with
    | none=>rw [he] at hob;exact qaa hob
    | some e =>
     rw [he] at hob;exact ⟨hc.1,fun Γ w vs em hf=>q20 hc he hob em hf⟩
  ·rename_i hh;split at hob
   ·rename_i hk;have hcf:c.f=f:=by
     simp only [wa4] at hk;exact waj hk.1
    subst hcf;have hc:=h c (waz ..)
    cases he:c.effCF H base args with
    | none=>rw [he] at hob;exact qaa hob
    | some e =>
     rw [he] at hob;exact ⟨hc.1,fun Γ w vs em hf=>q2v hc he hob em hf⟩
   ·exact qxm hc (fun c hc=>h c (wan _ hc)) f H base args hob
theorem qv3 {P:Program} {cs:List Con} (hc:∀ c∈cs,c.Ok P):∀ {ss:List SCon},(∀ c∈ss,c.Ok P)→∀ (f:FuncId) (H:List Hs) (base:Nat) (m:Bool) (args:List AV),allP (spS ss cs f H base (mark m::args)).ob →
  (m=true→qbw P f=true∧∀ (Γ:Cx) (w:World) (vs:List Value),EmbH Γ H w→Fa w Γ args vs →
   Calls P f vs.toArray w fun en w'=>∃ v Γ',en=.returned v∧Ext Γ H w Γ' (qaq H (spS ss cs f H base (mark m::args)).up) w'∧EmbH Γ' (qaq H (spS ss cs f H base (mark m::args)).up) w'∧Ra w' Γ' (spS ss cs f H base (mark m::args)).v v) ∧
  (m=false→∀ (Γ:Cx) (w:World),EmbH Γ H w→∃ Γ',Ext Γ H w Γ' (qaq H (spS ss cs f H base (mark m::args)).up) w∧EmbH Γ' (qaq H (spS ss cs f H base (mark m::args)).up) w)
 | [],_=>(qze hc).mrk
 | c::ss,h=>fun f H base m args hob=>by
  simp only [spS] at hob ⊢;split at hob
  ·rename_i hh;have hcf:c.f=f:=by
    simp only [wa4] at hh;exact waj hh.1
   subst hcf;have hc:=h c (waz ..);simp only [mark,qp3] at hob ⊢
   cases he:c.effM m H base args with
   | none=>rw [he] at hob;exact qaa hob
   | some e =>
    rw [he] at hob;obtain ⟨g1,g2⟩:=q42 hc he hob;exact ⟨fun hm=>⟨hc.1,g1 hm⟩,g2⟩
  ·rename_i hh;simp only [mark,qwc,wbl,wbk] at hob ⊢;exact qv3 hc (fun c hc=>h c (wan _ hc)) f H base m args hob
theorem q31 {P:Program} {cs:List Con} (hc:∀ c∈cs,c.Ok P) {ss:List SCon} (h:∀ c∈ss,c.Ok P):SpecOk P (spS ss cs) :=
 ⟨qxm hc h,qv3 hc h⟩
theorem qk1 {cs:List Con}:∀ {ss:List SCon},qc8 (spS ss cs)
 | []=>qns
 | c::ss=>fun f H H' base args hob ha=>by
  simp only [spS] at hob ha ⊢;split at hob
  ·rename_i hh;rw [hh] at ha;simp only at ha
   cases hm:qp3 args with
   | some x =>
    obtain ⟨m,l⟩:=x;rw [hm] at hob ha;simp only at hob ha ⊢
    cases he:c.effM m H base l with
    | none=>rw [he] at hob;exact qaa hob
    | some e =>
     rw [he] at hob ha;simp only at ha ⊢;rw [SCon.effM_frame he ha];exact Ef.sim.refl _
   | none =>
    rw [hm] at hob ha;simp only at hob ha ⊢
    cases he:c.eff H base args with
    | none=>rw [he] at hob;exact qaa hob
    | some e =>
     rw [he] at hob ha;simp only at ha ⊢;rw [SCon.eff_frame he ha];exact Ef.sim.refl _
  ·rename_i hh;rw [hh] at ha;simp only at ha;split at hob
   ·rename_i hk;rw [hk] at ha;simp only at ha
    cases he:c.effCF H base args with
    | none=>rw [he] at hob;exact qaa hob
    | some e =>
     rw [he] at hob ha;simp only at ha ⊢;obtain ⟨e',h1,h2⟩:=SCon.effCF_frame he ha;rw [h1];exact h2
   ·rename_i hk;rw [hk] at ha;exact qk1 f H H' base args hob ha
end
def rawR (T:List AV):List RS→List AV
 | []=>[]
 | .tmp n::l=>T.getD n .undef::rawR T l
 | .cell _ _::l=>.undef::rawR T l
def q7c:AV→Bool
 | .opt ..=>true
 | .gd _ v=>q7c v
 | _=>false
def frzT (S:St):TV→RS→Option Ty
 | .v t,_=>some t
 | .opt x,.tmp n=>match x with
  | .v t=>match q7c (S.T.getD n .undef) with
   | true=>none
   | false=>some t
  | _=>none
 | _,_=>none
def frzR (S:St):List TV→List RS→Option (List Prop×List AV)
 | [],[]=>some ([],[])
 | tv::tvs,s::l=>match frzT S tv s with
  | some t=>match qnr S t s,frzR S tvs l with
   | some (p,y),some (q,r)=>some (p++q,.val t y::r)
   | _,_=>none
  | none=>match s,frzR S tvs l with
   | .tmp n,some (q,r)=>some (q,S.T.getD n .undef::r)
   | _,_=>none
 | _,_=>none
def qyo (ρ:List (Option Nat)):List Nat→List Nat
 | []=>[]
 | x::l=>match memO x ρ with
  | true=>qyo ρ l
  | false=>x::qyo ρ l
def q4w:List Nat→List (Nat×Hs)
 | []=>[]
 | b::l=>(b,.dead)::q4w l
def zcx (S:St) (n:Nat) (outs:List TV) (obl:List TB) (slots:List RS):Option (List Prop×Dens (outs.flatMap TV.ts++tsB obl)) :=
 match qu5 0 n++qfx outs (rawR S.T slots) with
 | acc=>match qyo (qga obl (rhoL (qdk S.H 0 obl acc) 0 obl)) (qbj 0 S.H) with
  | K=>match frzR ⟨S.T,qdm K 0 S.H⟩ outs slots with
   | some (p,xs)=>match qid acc (qaq S.H (q4w K)) outs obl xs with
    | some (ρ,q,env)=>match idOk 0 n ρ,qm2 (outs.flatMap TV.ts++tsB obl) env with
     | true,some r=>some (p++q,r)
     | _,_=>none
    | none=>none
   | none=>none
noncomputable def finS (n:Nat) (outs:List TV) (obl:List TB) (slots:List RS):KT (Dens (outs.flatMap TV.ts++tsB obl)):=fun Y f e S=>match e with
 | .exit _=>none
 | _=>match zcx S n outs obl slots with
  | some (p,y)=>gdL p (some (f y))
  | none=>none
theorem q4i {n:Nat} {outs:List TV} {obl:List TB} {slots:List RS}:NatK (finS n outs obl slots):=fun Y f e S=>by
 cases e<;>simp only [finS]
 ·split
  ·rw [qd4];rfl
  ·rfl
 ·rfl
 ·split
  ·rw [qd4];rfl
  ·rfl
noncomputable def SCon.vc (c:SCon) (sp:Spec) (L:List LSh) (ac:AC) (n:Nat) (slots:List RS):Prop :=
 allD (c.ins.flatMap TV.ts++tsB c.ibl) fun env=>match c.pre env,c.F env with
  | some p,some r=>impL p (runO sp L ac ⟨stV (qa5 0 c.ibl.length) c.ins c.ibl env++List.replicate n .undef,stB (qa5 0 c.ibl.length) c.ins c.ibl env⟩ (finS c.ibl.length c.outs c.obl slots) (Dens (c.outs.flatMap TV.ts++tsB c.obl)) id=some r)
  | _,_=>False
noncomputable def SCon.goal (P:Program) (sp:Spec) (c:SCon) (L:List LSh) (ms:List Nat) (lm:List (List Nat)):Prop :=
 match comp P c.f c.ins.length ms lm with
 | some ⟨ac,n,slots⟩=>c.vc sp L ac n slots
 | none=>False
theorem qxo:∀ {K:List Nat},q4w K=K.map fun b=>(b,.dead)
 | []=>rfl
 | b::K=>by rw [q4w,qxo];rfl
theorem qn4 {ρ:List (Option Nat)} {b:Nat}:∀ {l:List Nat},b∈qyo ρ l→b∈l
 | x::l,h=>by
  simp only [qyo] at h;split at h
  ·exact wan _ (qn4 h)
  ·rcases List.mem_cons.1 h with rfl | h
   ·exact waz ..
   ·exact wan _ (qn4 h)
theorem qlp:∀ {H:List Hs} {n b:Nat},b∈qbj n H→n≤b∧∃ x,H[b-n]?=some x∧x≠.free
 | [],n,b,h=>by simp [qbj] at h
 | x::H,n,b,h=>by
  have key:b∈qbj (n+1) H→n≤b∧∃ y,(x::H)[b-n]?=some y∧y≠.free:=fun h=>by
   obtain ⟨h1,y,hy⟩:=qlp h;refine ⟨by omega,y,?_⟩
   rw [show b-n=(b-(n+1))+1 by omega,wa5]
   exact hy
  cases x with
  | live B =>
   simp only [qbj,List.mem_cons] at h
   rcases h with rfl | h
   ·exact ⟨wae _,.live B,by simp,by simp⟩
   ·exact key h
  | view c i f =>
   simp only [qbj,List.mem_cons] at h
   rcases h with rfl | h
   ·exact ⟨wae _,.view c i f,by simp,by simp⟩
   ·exact key h
  | free=>exact key h
  | dead=>exact key h
section
variable {P:Program}
theorem qku {w:World} {Γ:Cx} {S:St} {a:Act} (em:Emb Γ S a w) {Γz:Cx} (hI:∀ n,Jf Γ S.H n↔Γz.I n) (hA:∀ b,Γ.A b→Γz.A b∧Γz.ν b=Γ.ν b∧Γz.κ b=Γ.κ b) {g:ResultVar→Sem Value} (hg:∀ t,g (.tmp t)=pure (a.tmps.getD t undef)) (hc:∀ n t,g (.cell n t)=do loadVar t (← asAddr (a.tmps.getD n undef))) :
  ∀ {tvs:List TV} {slots:List RS} {l:List ResultVar} {p:List Prop} {xs:List AV},qb2 P l=some slots→frzR S tvs slots=some (p,xs)→allP p →
  ∃ us,(l.mapM g).run P w=.ok us w∧Fa w Γz xs us
 | tvs,slots,[],p,xs,hl,h,_=>by
  simp only [qb2,wa0] at hl;subst hl
  cases tvs with
  | nil =>
   simp only [frzR,wa0,wa2] at h;obtain ⟨_,rfl⟩:=h;exact ⟨[],by simp,trivial⟩
  | cons t ts=>simp [frzR] at h
 | tvs,slots,x::l,p,xs,hl,h,hp=>by
  obtain ⟨r,rest,rfl,h1,h2⟩:=qjd hl
  cases tvs with
  | nil=>simp [frzR] at h
  | cons tv tvs =>
   have other:∀ n q r',r=.tmp n→frzR S tvs rest=some (q,r')→p=q→xs=S.T.getD n .undef::r'→∃ us,((x::l).mapM g).run P w=.ok us w∧Fa w Γz xs us:=by
    rintro n q r' rfl k2 rfl rfl
    cases x with
    | tmp m =>
     simp only [qb2,wa0,wa1,RS.tmp.injEq,and_true] at h1;subst h1;obtain ⟨us,m3,m4⟩:=qku em hI hA hg hc h2 k2 hp;refine ⟨a.tmps.getD m undef::us,by simp [List.mapM_cons,hg,m3],?_,m4⟩
     exact Rp.mono (fun b hb=>(hI b).1 (.inl hb)) (fun _ _=>rfl) hA _ _ (qsl em m)
    | cell m t =>
     simp only [qb2] at h1;split at h1<;>simp at h1
   simp only [frzR] at h
   cases hft:frzT S tv r with
   | some t =>
    rw [hft] at h;simp only at h;split at h
    ·rename_i p1 z q r' k1 k2;cases h;obtain ⟨hp1,hp2⟩:=qae.1 hp;obtain ⟨v,m1,m2⟩:=qjt em hg hc h1 k1 hp1;obtain ⟨us,m3,m4⟩:=qku em hI hA hg hc h2 k2 hp2;refine ⟨v::us,by simp [List.mapM_cons,m1,m3],?_,m4⟩
     refine Ra_val.2 ?_;obtain ⟨cs,c1,c2⟩:=m2;exact ⟨cs,RepC.mono (fun b hb=>(hI b).1 hb) (fun _ _=>rfl) _ _ _ c1,c2⟩
    ·cases h
   | none =>
    rw [hft] at h;simp only at h;split at h
    ·rename_i n q r' k1;simp only [wa0,wa2] at h;exact other n q r' rfl k1 h.1.symm h.2.symm
    ·cases h
theorem q4g {w:World} {Γ:Cx} {xs:List AV} {us:List Value} (h:Fa w Γ xs us):Ra w Γ (resS xs) (resV us):=by
 match xs,us,h with
 | [],[],h =>
  simp only [resS,resV,Ra,Rp,wa1,and_true];exact ⟨[],rfl,qd2.2 h⟩
 | [x],[u],h=>exact h.1
 | x::x'::xs,u::u'::us,h =>
  simp only [resS,resV,Ra,Rp,wa1,and_true];exact ⟨_,rfl,qd2.2 h⟩
 | [],_::_,h=>exact h.elim
 | _::_,[],h=>exact h.elim
 | [_],_::_::_,h=>exact h.2.elim
 | _::_::_,[_],h=>exact h.2.elim
theorem SCon.prove (c:SCon) {sp:Spec} (hsp:SpecOk P sp) (hfr:qc8 sp) (hm:P.follows .mixedOrders=true) {fn:Func} {code:Code} {ms:List Nat} {lm lm':List (List Nat)} {ac:AC} {slots:List RS} {n:Nat}
  (hf:P.funcs[c.f]?=some fn) (hb:fn.body=some code) (hcall:qbw P c.f=true) (hn:fn.ntmps-c.ins.length=n) (hres:qb2 P fn.results.toList=some slots) (hc:qfk P ms code lm=some (ac,lm'))
  {L:List LSh} (h:c.vc sp L ac n slots):c.Ok P:=by
 refine ⟨hcall,fun Γ w env p r vs em henv hpre hF hp hargs=>?_⟩
 have h:=qjo h henv;rw [hpre,hF] at h;have h:=qnd h hp;have hal:(stV (qa5 0 c.ibl.length) c.ins c.ibl env).length=c.ins.length:=qlr;generalize hH0:stB (qa5 0 c.ibl.length) c.ins c.ibl env=H0 at em h ⊢;have hH0l:H0.length=c.ibl.length:=by rw [← hH0];exact qd5
 generalize stV (qa5 0 c.ibl.length) c.ins c.ibl env=xs0 at hal hargs h;have hlen:xs0.length=vs.length:=hargs.length;have em0:Emb Γ ⟨xs0++List.replicate n .undef,H0⟩ { tmps:=vs.toArray++Array.replicate (fn.ntmps-vs.toArray.size) undef,defers:=[] } w:=by
  refine ⟨rfl,?_,fun i x hx=>?_,em⟩
  ·simp only [Array.size_append,Array.size_replicate,waf,war,List.size_toArray];rw [hlen,← hn,← hal,hlen]
  ·rcases Nat.lt_or_ge i vs.length with hi | hi
   ·rw [wag (by omega)] at hx
    obtain ⟨v,hv,hr⟩:=hargs.get i x hx;refine ⟨v,?_,hr⟩;rw [Array.getElem?_append_left (by simpa using hi)]
    simpa using hv
   ·rw [wah (by omega),way] at hx
    split at hx
    ·rename_i hlt;cases hx;have hsz:i<(vs.toArray++Array.replicate (fn.ntmps-vs.toArray.size) undef).size:=by
      simp only [Array.size_append,Array.size_replicate,List.size_toArray];omega
     exact ⟨_,Array.getElem?_eq_getElem hsz,qcp⟩
    ·cases hx
 refine calls_of_wp hf hb (wp_mono (qo5 hsp hfr hm code lm ac lm' hc _ q4i r Γ _ _ w em0 h) fun e a w' hq=>?_)
 obtain ⟨Γ',S',em',hx,hk⟩:=hq;have key:∀ hk:finS c.ibl.length c.outs c.obl slots (Dens (c.outs.flatMap TV.ts++tsB c.obl)) id .normal S'=some r,a.defers=[]∧∃ v,(results fn a.tmps).run P w'=.ok v w'∧∃ v' Γ',Ending.returned v=.returned v' ∧
   Ext Γ H0 w Γ' (stB (qa5 0 c.obl.length) c.outs c.obl (qbc _ r)) w'∧EmbH Γ' (stB (qa5 0 c.obl.length) c.outs c.obl (qbc _ r)) w'∧Ra w' Γ' (resS (stV (qa5 0 c.obl.length) c.outs c.obl (qbc _ r))) v':=by
  intro hk;simp only [finS] at hk;split at hk
  ·rename_i q y hy;obtain ⟨hq,he⟩:=qbl.1 hk;simp only [id,wa0] at he;subst he;simp only [zcx] at hy;generalize hKK:qyo (qga c.obl (rhoL (qdk S'.H 0 c.obl (qu5 0 c.ibl.length++qfx c.outs (rawR S'.T slots))) 0 c.obl)) (qbj 0 S'.H)=K at hy;split at hy
   ·rename_i p1 xs hfz;split at hy
    ·rename_i ρ q1 env' hrt;split at hy
     ·rename_i r' hid htd;cases hy;obtain ⟨hp1,hq1⟩:=qae.1 hq;have hKA:∀ b∈K,Γ'.A b:=fun b hb=>by
       rw [← hKK] at hb;have:=(qlp (qn4 hb)).2;rw [Nat.sub_zero] at this;exact (em'.heap.al b).2 this
      have emM:Emb Γ' ⟨S'.T,qdm K 0 S'.H⟩ a w':=⟨em'.defers,em'.size,em'.tmp,qrz em'.heap⟩;obtain ⟨x1,em1⟩:=qnw (K:=K) (I:=Jf Γ' (qdm K 0 S'.H)) em'.heap hKA (fun _ _=>rfl) (wae _) rfl rfl (fun _ h=>.inl h) (fun n hn=>.inl hn) (fun n hn=>by
       rcases hn with h | hw
       ·exact em'.heap.old n h
       ·obtain ⟨c,hc⟩:=q1d (hw.sub fun _ _ h=>(qbe h).1)
        exact em'.heap.own_lt hc)
      rw [← qxo] at x1 em1;have hz:=hx.trans x1;have hex:∃ us,(∀ g:ResultVar→Sem Value,(∀ t,g (.tmp t)=pure (a.tmps.getD t undef))→(∀ n t,g (.cell n t)=do loadVar t (← asAddr (a.tmps.getD n undef)))→(fn.results.toList.mapM g).run P w'=.ok us w')∧Fa w' { Γ' with I:=Jf Γ' (qdm K 0 S'.H) } xs us:=by
       let g0:ResultVar→Sem Value:=fun | .tmp t=>pure (a.tmps.getD t undef) | .cell n t=>do loadVar t (← asAddr (a.tmps.getD n undef))
       obtain ⟨us,u1,u2⟩:=qku emM (Γz:={ Γ' with I:=Jf Γ' (qdm K 0 S'.H) }) (fun n=>Iff.rfl) (fun b hb=>⟨hb,rfl,rfl⟩) (g:=g0) (fun _=>rfl) (fun _ _=>rfl) hres hfz hp1
       refine ⟨us,fun g h1 h2=>?_,u2⟩
       have:g=g0:=by funext x;cases x<;>simp [g0,h1,h2]
       rw [this];exact u1
      obtain ⟨us,k1,k2⟩:=hex;obtain ⟨g1,g2,g3,g4,g5⟩:=qj2 em1 hrt hq1;have hde:=qnq htd;rw [← hde];refine ⟨em'.defers,_,qmz k1,_,({ Γ' with I:=Jf Γ' (qdm K 0 S'.H) }:Cx).head 0 ρ noA,rfl,⟨hz.fr,hz.size,hz.os,hz.out,fun n hn=>?_,hz.im,hz.mi,fun b hb=>?_⟩,g3,q4g (g5 us k2)⟩
      ·obtain ⟨j,c',_,m2⟩:=g4 n hn;exact hz.wr n m2.wr
      ·have hlt:b<c.ibl.length:=by
        obtain ⟨x,hx,_⟩:=(em.al b).1 hb;have:=qbi hx;omega
       have hid':=qjr hid b hlt;rw [wa8] at hid';obtain ⟨f1,f2,f3⟩:=(Nm.head (Γ:={ Γ' with I:=Jf Γ' (qdm K 0 S'.H) }) (len:=0) (ρ:=ρ) (A0:=noA)).so b b hid'
       rw [qat (qcd hid'),wa8] at f1 f2 f3;obtain ⟨_,z2,z3⟩:=hz.al b hb;exact ⟨f1,f2.trans z2,f3.trans z3⟩
     ·cases hy
    ·cases hy
   ·cases hy
  ·cases hk
 cases e with
 | normal=>exact key hk
 | ret=>exact key hk
 | exit i=>cases hk
 | goto l=>exact hk.elim
 | panic c=>exact hk.elim
 | outgrown=>exact hk.elim
end
theorem SCon.of_goal {P:Program} {cs:List Con} {ss:List SCon} (hm:P.follows .mixedOrders=true) (h:∀ c∈cs,c.Ok P) (hs:∀ c∈ss,c.Ok P) (c:SCon) {L:List LSh} {ms:List Nat} {lm:List (List Nat)} (hg:c.goal P (spS ss cs) L ms lm):c.Ok P:=by
 unfold SCon.goal at hg;split at hg
 ·rename_i ac n slots hc;unfold comp at hc;split at hc
  ·rename_i fn hf;split at hc
   ·cases hc
   ·rename_i hnm;split at hc
    ·rename_i code hb;split at hc
     ·rename_i ac' lm' slots' h1 h2;cases hc;refine SCon.prove c (q31 h hs) qk1 hm hf hb ?_ rfl h2 h1 hg;simp [qbw,hf,hnm,hb]
     ·cases hc
    ·cases hc
  ·cases hc
 ·exact hg.elim
theorem Con.of_goalS {P:Program} {cs:List Con} {ss:List SCon} (hm:P.follows .mixedOrders=true) (h:∀ c∈cs,c.Ok P) (hs:∀ c∈ss,c.Ok P) (c:Con) {L:List LSh} {ms:List Nat} {lm:List (List Nat)} (hg:c.goal P (spS ss cs) L ms lm):c.Ok P:=by
 unfold Con.goal at hg;split at hg
 ·rename_i ac n slots hc;unfold comp at hc;split at hc
  ·rename_i fn hf;split at hc
   ·cases hc
   ·rename_i hnm;split at hc
    ·rename_i code hb;split at hc
     ·rename_i ac' lm' slots' h1 h2;cases hc;refine Con.prove c (q31 h hs) qk1 hm hf hb ?_ rfl h2 h1 hg;simp [qbw,hf,hnm,hb]
     ·cases hc
    ·cases hc
  ·cases hc
 ·exact hg.elim
def mkS (f:FuncId) (ins:List TV) (ibl:List TB) (outs:List TV) (obl:List TB) (pre:Cur (ins.flatMap TV.ts++tsB ibl) (List Prop)) (F:Cur (ins.flatMap TV.ts++tsB ibl) (Dens (outs.flatMap TV.ts++tsB obl))):SCon :=
 ⟨f,ins,ibl,outs,obl,appC _ pre,appC _ F⟩
theorem okS0 {P:Program}:∀ c∈([]:List SCon),c.Ok P:=fun _ h=>nomatch h
theorem okS {P:Program} {c:SCon} {cs:List SCon} (h:c.Ok P) (hs:∀ x∈cs,x.Ok P):∀ x∈c::cs,x.Ok P:=fun x hx=>by
 rcases List.mem_cons.1 hx with rfl | hx
 ·exact h
 ·exact hs x hx
end Go.Ab
