/- Lists and loops that count: what laws about slices of numbers want. -/
import Derived.Test.YtieimmiiaabpgaaGreatAS
set_option linter.unusedVariables false
set_option linter.unusedSimpArgs false
namespace Go.Ab
abbrev I64:Ty:=.int .i64
abbrev LI:Ty:=.slice I64
def zdr {α:Type} (l:List α):Prop:=(l.length:Int)<9223372036854775808
structure SCon where
 f:FuncId
 ins:List TV
 ibl:List TB
 outs:List TV
 obl:List TB
 pre:List AV→Option (List Prop)
 F:List AV→Option (Dens (outs.flatMap TV.ts++tsB obl))
def resS:List AV→AV
 | [x]=>x
 | l=>.tup (toAV l)
def stL (bl:List TB) (tvs:List TV) (env:List AV):List Nat:=qsj bl (qfq (cntC tvs) env)
def stB (nm:List Nat) (tvs:List TV) (bl:List TB) (env:List AV):List Hs:=qbg nm (stL bl tvs env) bl (qfq (cntC tvs) env)
def stV (nm:List Nat) (tvs:List TV) (bl:List TB) (env:List AV):List AV:=qfl nm (stL bl tvs env) tvs env
def SCon.Ok (P:Program) (c:SCon):Prop:=qbr P c.f=true ∧
 ∀ (Γ:Cx) (w:World) (env:List AV) (p:List Prop) (r:Dens (c.outs.flatMap TV.ts++tsB c.obl)) (vs:List Value),EmbH Γ (stB (qa3 0 c.ibl.length) c.ins c.ibl env) w→qc5 (c.ins.flatMap TV.ts++tsB c.ibl) env→c.pre env=some p→c.F env=some r→allP p →
  Fa w Γ (stV (qa3 0 c.ibl.length) c.ins c.ibl env) vs →
  Calls P c.f vs.toArray w fun en w'=>∃ v Γ',en=.returned v∧Ext Γ (stB (qa3 0 c.ibl.length) c.ins c.ibl env) w Γ' (stB (qa3 0 c.obl.length) c.outs c.obl (qba _ r)) w' ∧
   EmbH Γ' (stB (qa3 0 c.obl.length) c.outs c.obl (qba _ r)) w'∧Ra w' Γ' (resS (stV (qa3 0 c.obl.length) c.outs c.obl (qba _ r))) v
def qib (acc:List (Nat×Nat)) (H:List Hs) (tvs:List TV) (bl:List TB) (xs:List AV):Option (List (Option Nat)×List Prop×List AV) :=
 match rhoL (qdd H 0 bl acc) 0 bl with
 | ρ=>match qik (qfs bl ρ) with
  | true=>match qfj ρ H (qe3 H ρ bl) tvs xs,qcc ρ H (qe3 H ρ bl) ρ bl with
   | some (p,h),some (q,r)=>some (ρ,p++q,h++r)
   | _,_=>none
  | false=>none
def noA:Nat→Prop:=fun _=>False
section
variable {w w':World} {Γ Γ':Cx} {H:List Hs}
theorem qkd {acc:List (Nat×Nat)} {tvs:List TV} {bl:List TB} {xs:List AV} {ρ:List (Option Nat)} {p:List Prop} {env:List AV} (h:qib acc H tvs bl xs=some (ρ,p,env)) :
  ∃ p1 h1 q r,ρ=rhoL (qdd H 0 bl acc) 0 bl∧qik (qfs bl ρ)=true∧qfj ρ H (qe3 H ρ bl) tvs xs=some (p1,h1)∧qcc ρ H (qe3 H ρ bl) ρ bl=some (q,r)∧p=p1++q∧env=h1++r:=by
 simp only [qib] at h;generalize hρ:rhoL (qdd H 0 bl acc) 0 bl=ρ' at h;split at h
 ·rename_i hnd;split at h
  ·rename_i p1 h1 q r e1 e2;cases h;exact ⟨p1,h1,q,r,rfl,hnd,e1,e2,rfl,rfl⟩
  ·cases h
 ·cases h
theorem q8a {b:Nat} {h:Hs} {n:Nat} (hlt:b<H.length):(H.set b h)[n]?=if n=b then some h else H[n]?:=by
 rw [waw]
 by_cases hn:b=n
 ·subst hn;simp [hlt]
 ·rw [if_neg hn,if_neg (fun h'=>hn h'.symm)]
def OwnB (Γ:Cx) (H:List Hs) (c n:Nat):Prop:=(Live H c∧Γ.κ c≠0∧Γ.ν c=n)∨(Nest H c∧Γ.O c n)
theorem OwnB.wr {c n:Nat} (h:OwnB Γ H c n):Wr Γ H n:=h.elim (fun ⟨a,b,d⟩=>.inl ⟨c,a,b,d⟩) fun ⟨a,b⟩=>.inr ⟨c,a,b⟩
theorem q2g {n:Nat} (h:Wr Γ H n):∃ c,OwnB Γ H c n:=h.elim (fun ⟨c,a,b,d⟩=>⟨c,.inl ⟨a,b,d⟩⟩) fun ⟨c,a,b⟩=>⟨c,.inr ⟨a,b⟩⟩
theorem EmbH.own_eq (e:EmbH Γ H w) {b c n:Nat} (h:OwnB Γ H b n) (h':OwnB Γ H c n):b=c:=by
 rcases h with ⟨h1,h2,h3⟩ | ⟨h1,h2⟩<;>rcases h' with ⟨g1,g2,g3⟩ | ⟨g1,g2⟩
 ·exact e.inj b c h1 g1 h2 g2 (h3.trans g3.symm)
 ·exact absurd h3 (e.rows.main c b n g1 h1 h2 g2)
 ·exact absurd g3 (e.rows.main b c n h1 g1 g2 h2)
 ·exact e.rows.dis b c n h1 g1 h2 g2
theorem EmbH.own_lt (e:EmbH Γ H w) {b n:Nat} (h:OwnB Γ H b n):n<w.heap.size:=by
 rcases h with ⟨h1,h2,rfl⟩ | ⟨h1,h2⟩
 ·exact e.lt h1 h2
 ·exact e.rows.lt b n h1 h2
theorem EmbH.own_imm (e:EmbH Γ H w) {b n:Nat} (h:OwnB Γ H b n):¬ Γ.I n:=by
 rcases h with ⟨h1,h2,rfl⟩ | ⟨h1,h2⟩
 ·exact e.imm b h1 h2
 ·exact e.rows.imm b n h1 h2
theorem q9a (em:EmbH Γ H w) {ρ:List (Option Nat)} {lens:List Nat} {bl:List TB} {q:List Prop} {r rest:List AV} (hr:qcc ρ H lens ρ bl=some (q,r)) (hq:allP q) {n:Nat} (h:Wr (Γ.head 0 ρ noA) (qbg (qa3 0 ρ.length) lens bl (r++rest)) n) :
  ∃ (j c:Nat),ρ[j]?=some (some c)∧OwnB Γ H c n:=by
 have hn:Nm Γ (Γ.head 0 ρ noA) ρ (qa3 0 ρ.length):=Nm.head;obtain ⟨hrl,hrg⟩:=qh9 (nm:=qa3 0 ρ.length) rest hr hq
 rcases h with ⟨b,⟨B,hB⟩,hk,he⟩ | ⟨b,⟨t,rw,ou,hB⟩,ho⟩
 case inr =>
  obtain ⟨o,tb,p',h',rest',k1,k2,k3,k4⟩:=hrg _ _ hB;obtain ⟨i,h1,h2⟩:=ho
  cases o with
  | none =>
   have:=hn.rn _ k1 i;rw [qau (qb6 k1),wa7] at this;exact absurd this h1
  | some c =>
   have hc:=qj7 k2 rest' k4.symm c rfl;have:=hn.rr _ _ k1;rw [qau (qb6 k1),wa7] at this;exact ⟨b,c,k1,.inr ⟨hc,(Cx.O_congr this).1 ⟨i,h1,h2⟩⟩⟩
 obtain ⟨o,tb,p',h',rest',k1,k2,k3,k4⟩:=hrg _ _ hB;obtain ⟨m1,m2⟩:=qi3 em.blk hn k1 k2 k3 rest' k4.symm;have hj:=qb6 k1
 cases o with
 | none =>
  have:=(hn.no _ k1).2;rw [qau hj,wa7] at this;exact absurd this hk
 | some c =>
  obtain ⟨_,g2,g3⟩:=hn.so _ _ k1;rw [qau hj,wa7] at g2 g3;exact ⟨b,c,k1,.inl ⟨m1 c rfl,by rw [← g3];exact hk,by rw [← g2];exact he⟩⟩
theorem qjg (em:EmbH Γ H w) {acc:List (Nat×Nat)} {tvs:List TV} {bl:List TB} {xs:List AV} {ρ:List (Option Nat)} {p:List Prop} {env:List AV} (h:qib acc H tvs bl xs=some (ρ,p,env)) (hp:allP p) :
  ρ.length=bl.length∧qc5 (tvs.flatMap TV.ts++tsB bl) env∧EmbH (Γ.head 0 ρ noA) (stB (qa3 0 bl.length) tvs bl env) w ∧
  (∀ n,Wr (Γ.head 0 ρ noA) (stB (qa3 0 bl.length) tvs bl env) n→∃ (j c:Nat),ρ[j]?=some (some c)∧OwnB Γ H c n) ∧
  ∀ vs,Fa w Γ xs vs→Fa w (Γ.head 0 ρ noA) (stV (qa3 0 bl.length) tvs bl env) vs:=by
 obtain ⟨p1,h1,q,r,hρ,hnd,e1,e2,rfl,rfl⟩:=qkd h;have hρl:ρ.length=bl.length:=by rw [hρ];exact qi6
 obtain ⟨hp1,hq⟩:=qag.1 hp;have hdrop:qfq (cntC tvs) (h1++r)=r:=qc2 ((qjn e1).length.trans qnp);have hle:qsj bl r=qe3 H ρ bl:=by have:=qt9 [] e2;rwa [wbo] at this
 have hrl:=q74 (K:=[]) (A0:=noA) em (fun b B hB=>by simp at hB) (fun b c i f hb=>by simp at hb) (fun b=>⟨fun h=>h.elim,fun ⟨x,hx,_⟩=>by simp at hx⟩) e2 hq hnd []
 simp only [wbo,List.nil_append,wa9] at hrl;have hn:Nm Γ (Γ.head 0 ρ noA) ρ (qa3 0 ρ.length):=Nm.head;have hst:stB (qa3 0 bl.length) tvs bl (h1++r)=qbg (qa3 0 ρ.length) (qe3 H ρ bl) bl r:=by
  simp only [stB,stL,hdrop,hle,hρl]
 refine ⟨hρl,(qjn e1).app (qod e2),?_,fun n hn'=>?_,fun vs hf=>?_⟩
 ·rw [hst];exact hrl.1
 ·rw [hst] at hn';have:=q9a (rest:=[]) em e2 hq (n:=n);rw [wbo] at this;exact this hn'
 ·have:=qum em.blk hn r e1 hp1 hf;simp only [stV,stL,hdrop,hle,← hρl];exact this
def TV.pl (m:Nat):TV→Bool
 | .sl j _ _=>Nat.blt j m
 | .slf j _=>Nat.blt j m
 | .ref j _ _ _=>Nat.blt j m
 | .mref j=>Nat.blt j m
 | .fn _ c=>c.pl m
 | .cons a l=>a.pl m && l.pl m
 | .opt x=>x.pl m
 | _=>true
def plC (m:Nat):List TV→Bool
 | []=>true
 | x::l=>x.pl m && plC m l
def plB (m:Nat):List TB→Bool
 | []=>true
 | .cells l::bl=>plC m l && plB m bl
 | .mix l _::bl=>plC m l && plB m bl
 | .view _::_=>false
 | _::bl=>plB m bl
theorem qit {m:Nat} {nm lens:List Nat}:∀ {bl:List TB} {env:List AV} {j:Nat} {c i:Nat} {f:Bool},plB m bl=true→(qbg nm lens bl env)[j]?≠some (.view c i f)
 | [],_,_,_,_,_,_,h=>by simp [qbg] at h
 | b::bl,env,0,c,i,f,hp,h=>by
  simp only [qbg,wa6,waz] at h;cases b<;>simp [qc4,plB] at h hp
 | b::bl,env,j+1,c,i,f,hp,h=>by
  simp only [qbg,wa4] at h;have hp':plB m bl=true:=by cases b<;>simp [plB] at hp<;>first | exact hp | exact hp.2
  exact qit hp' h
def VE (env:List AV):Prop:=∀ x∈env,∃ (t:Ty) (y:Den t),x=.val t y
theorem qc5.ve:∀ {ts:List Ty} {env:List AV},qc5 ts env→VE env
 | [],[],_=>fun x hx=>by cases hx
 | t::ts,x::xs,h=>fun y hy=>by
  rcases List.mem_cons.1 hy with rfl | hy
  ·obtain ⟨z,hz⟩:=h.1;exact ⟨t,z,hz⟩
  ·exact qc5.ve h.2 y hy
 | [],_::_,h=>h.elim
 | _::_,[],h=>h.elim
theorem qrs:∀ {ts:List Ty} {x:Dens ts},qc5 ts (qba ts x)
 | [],_=>trivial
 | t::ts,x=>⟨⟨x.1,rfl⟩,qrs⟩
theorem VE.drop:∀ {n:Nat} {env:List AV},VE env→VE (qfq n env)
 | 0,_,h=>h
 | _+1,[],h=>h
 | n+1,_::l,h=>VE.drop (n:=n) fun x hx=>h x (wam _ hx)
section
variable {nm nm' lens:List Nat} {m:Nat}
theorem qjy (hI:∀ b,Γ.I b→Γ'.I b) (hr:∀ j,j<m→Γ'.A (nmAt nm' j)∧Γ'.ν (nmAt nm' j)=Γ.ν (nmAt nm j)∧Γ'.κ (nmAt nm' j)=Γ.κ (nmAt nm j)):∀ {tv:TV} {env:List AV} {vs:List Value},tv.pl m=true→VE env →
  Rp w Γ (qdh nm lens tv env) vs→Rp w Γ' (qdh nm' lens tv env) vs
 | .u,env,vs,_,_,h=>by simpa only [qdh,Rp] using h
 | .v t,[],vs,_,_,h=>by simpa only [qdh,List.headD_nil,Rp] using h
 | .v t,x::env,vs,_,hv,h=>by
  obtain ⟨t',y,rfl⟩:=hv x (by simp)
  simp only [qdh,List.headD_cons,Rp] at h ⊢;obtain ⟨v,e,h⟩:=h;exact ⟨v,e,h.mono hI (fun _ _=>rfl)⟩
 | .sl j s i,env,vs,hj,_,h=>by
  simp only [qdh,Rp] at h ⊢;obtain ⟨g1,g2,g3⟩:=hr j (by simpa [TV.pl] using hj)
  exact ⟨g1,by rw [g2,g3];exact h.2⟩
 | .slf j s,env,vs,hj,_,h=>by
  simp only [qdh,Rp] at h ⊢;obtain ⟨g1,g2,g3⟩:=hr j (by simpa [TV.pl] using hj)
  exact ⟨g1,by rw [g2,g3];exact h.2⟩
 | .ref j s i o,env,vs,hj,_,h=>by
  simp only [qdh,Rp] at h ⊢;obtain ⟨g1,g2,g3⟩:=hr j (by simpa [TV.pl] using hj)
  exact ⟨g1,by rw [g2];exact h.2⟩
 | .mref j,env,vs,hj,_,h=>by
  simp only [qdh,Rp] at h ⊢;obtain ⟨g1,g2,g3⟩:=hr j (by simpa [TV.pl] using hj)
  exact ⟨g1,by rw [g2];exact h.2⟩
 | .fn f c,env,vs,hj,hv,h=>by
  simp only [qdh,Rp] at h ⊢;obtain ⟨us,e,h⟩:=h;exact ⟨us,e,qjy hI hr (tv:=c) hj hv h⟩
 | .nil,env,vs,_,_,h=>by simpa only [qdh,Rp] using h
 | .cons a l,env,vs,hj,hv,h=>by
  simp only [TV.pl,wa3] at hj;simp only [qdh,Rp] at h ⊢;obtain ⟨v,us,e,h1,h2⟩:=h;exact ⟨v,us,e,qjy hI hr hj.1 hv h1,qjy hI hr hj.2 hv.drop h2⟩
 | .opt x,env,vs,hj,hv,h=>by
  simp only [qdh,Rp] at h ⊢;exact ⟨h.1,h.2.1,fun hb=>⟨qjy hI hr (tv:=x) hj hv.drop (h.2.2 hb).1,(h.2.2 hb).2⟩⟩
theorem qmk (hI:∀ b,Γ.I b→Γ'.I b) (hr:∀ j,j<m→Γ'.A (nmAt nm' j)∧Γ'.ν (nmAt nm' j)=Γ.ν (nmAt nm j)∧Γ'.κ (nmAt nm' j)=Γ.κ (nmAt nm j)):∀ {l:List TV} {env:List AV},plC m l=true→VE env →
  (qfl nm' lens l env).length=(qfl nm lens l env).length∧∀ (i:Nat) (a:AV),(qfl nm' lens l env)[i]?=some a→∃ a0,(qfl nm lens l env)[i]?=some a0∧∀ v,Ra w Γ a0 v→Ra w Γ' a v
 | [],env,_,_=>⟨rfl,fun i a h=>by simp [qfl] at h⟩
 | tv::l,env,hp,hv=>by
  simp only [plC,wa3] at hp;obtain ⟨k1,k2⟩:=qmk hI hr hp.2 (hv.drop (n:=tv.n));simp only [qfl];refine ⟨by simp only [wa5,k1],fun i a h=>?_⟩
  cases i with
  | zero =>
   simp only [wa6,waz] at h ⊢;subst h;exact ⟨_,rfl,fun v h=>qjy hI hr hp.1 hv h⟩
  | succ i =>
   simp only [wa4] at h ⊢;exact k2 i a h
theorem qlr:∀ {l:List TV} {env:List AV},(qfl nm lens l env).length=l.length
 | [],_=>rfl
 | tv::l,env=>by simp [qfl,qlr (l:=l)]
theorem qnk (hI:∀ b,Γ.I b→Γ'.I b) (hr:∀ j,j<m→Γ'.A (nmAt nm' j)∧Γ'.ν (nmAt nm' j)=Γ.ν (nmAt nm j)∧Γ'.κ (nmAt nm' j)=Γ.κ (nmAt nm j)):∀ {bl:List TB} {env:List AV},plB m bl=true→VE env →
  ∀ (j:Nat) (B:Blk),(qbg nm' lens bl env)[j]?=some (.live B)→∃ B0,(qbg nm lens bl env)[j]?=some (.live B0)∧(∀ t r o,B=.nest t r o→∃ t r o,B0=.nest t r o)∧∀ b b',Γ'.ν b'=Γ.ν b→Γ'.κ b'=Γ.κ b→Γ'.R b'=Γ.R b→RepB w Γ b B0→RepB w Γ' b' B
 | [],env,_,_,j,B,h=>by simp [qbg] at h
 | tb::bl,env,hp,hv,j,B,h=>by
  have hp2:plB m bl=true:=by cases tb<;>simp [plB] at hp<;>first | exact hp | exact hp.2
  simp only [qbg] at h ⊢
  cases j with
  | succ j =>
   simp only [wa4] at h ⊢;exact qnk hI hr hp2 hv.drop j B h
  | zero =>
   simp only [wa6,waz] at h ⊢
   cases tb with
   | arr t opn =>
    simp only [qc4,Hs.live.injEq] at h ⊢;subst h;refine ⟨_,rfl,(fun _ _ _ h=>by cases h),fun b b' hν hκ hR hb=>?_⟩
    simp only [RepB] at hb ⊢;rw [hν,hκ];obtain ⟨h1,h2,h3⟩:=hb;refine ⟨h1,h2,fun hk=>?_⟩
    obtain ⟨c,el,g1,g2,g3⟩:=h3 hk;refine ⟨c,el,g1,g2,fun i x hx=>?_⟩
    obtain ⟨cs,m1,m2⟩:=g3 i x hx;exact ⟨cs,RepC.mono hI (fun _ _=>rfl) _ _ _ m1,m2⟩
   | cells l =>
    simp only [qc4,Hs.live.injEq] at h ⊢;subst h;refine ⟨_,rfl,(fun _ _ _ h=>by cases h),fun b b' hν hκ hR hb=>?_⟩
    simp only [plB,wa3] at hp;obtain ⟨k1,k2⟩:=qmk (w:=w) (lens:=lens) hI hr hp.1 hv;simp only [RepB] at hb ⊢;rw [hν,hκ];obtain ⟨h1,c,el,h2,h3,h4⟩:=hb;refine ⟨h1,c,el,h2,h3.trans k1.symm,fun i a ha=>?_⟩
    obtain ⟨a0,g1,g2⟩:=k2 i a ha;obtain ⟨v,m1,m2,m3⟩:=h4 i a0 g1;exact ⟨v,m1,m2,g2 v m3⟩
   | map k v =>
    simp only [qc4,Hs.live.injEq] at h ⊢;subst h;refine ⟨_,rfl,(fun _ _ _ h=>by cases h),fun b b' hν hκ hR hb=>?_⟩
    simp only [RepB] at hb ⊢;rw [hν,hκ];obtain ⟨h1,c,el,h2,h3,h4⟩:=hb;refine ⟨h1,c,el,h2,h3,fun i a ha=>?_⟩
    obtain ⟨ent,ck,cv,m1,m2,m3,m4,m5⟩:=h4 i a ha;exact ⟨ent,ck,cv,m1,RepC.mono hI (fun _ _=>rfl) _ _ _ m2,m3,RepC.mono hI (fun _ _=>rfl) _ _ _ m4,m5⟩
   | mix l t =>
    simp only [qc4,Hs.live.injEq] at h ⊢;subst h;refine ⟨_,rfl,(fun _ _ _ h=>by cases h),fun b b' hν hκ hR hb=>?_⟩
    simp only [plB,wa3] at hp;obtain ⟨k1,k2⟩:=qmk (w:=w) (lens:=lens) (env:=qfq 1 env) hI hr hp.1 hv.drop;obtain ⟨ha,hb⟩:=qd0.1 hb;refine qd0.2 ⟨ha,?_⟩;simp only [RepB] at hb ⊢;rw [hν,hκ];obtain ⟨h1,c,el,h2,h3,h4⟩:=hb;refine ⟨h1,c,el,h2,h3.trans (by simp [mixL,k1]),fun i a ha=>?_⟩
    unfold mixL at ha h4
    rcases Nat.lt_or_ge i (qfl nm' lens l (qfq 1 env)).length with hi | hi
    ·rw [waf hi] at ha;obtain ⟨a0,g1,g2⟩:=k2 i a ha;obtain ⟨v,m1,m2,m3⟩:=h4 i a0 (by rw [waf (by omega)];exact g1)
     exact ⟨v,m1,m2,g2 v m3⟩
    ·rw [wag hi] at ha;obtain ⟨v,m1,m2,m3⟩:=h4 i a (by rw [wag (by omega),← k1];exact ha)
     rw [wao] at ha
     cases hz:(qi2 t (env.headD .undef))[i-(qfl nm' lens l (qfq 1 env)).length]? with
     | none=>rw [hz] at ha;cases ha
     | some z =>
      rw [hz] at ha;cases ha;exact ⟨v,m1,m2,Ra_val.2 ((Ra_val.1 m3).mono hI (fun _ _=>rfl))⟩
   | dead=>simp [qc4] at h
   | view k=>simp [qc4] at h
   | nest t =>
    simp only [qc4,Hs.live.injEq] at h ⊢;subst h;refine ⟨_,rfl,(fun _ _ _ h=>⟨_,_,_,rfl⟩),fun b b' hν hκ hR hb=>?_⟩
    simp only [RepB] at hb ⊢;rw [hν,hκ,hR];obtain ⟨h1,h2⟩:=hb;refine ⟨h1,fun hk=>?_⟩
    obtain ⟨c,el,g1,g2,g3⟩:=h2 hk;refine ⟨c,el,g1,g2,fun i x hx=>?_⟩
    obtain ⟨m1,m2⟩:=g3 i x hx;exact ⟨m1.mono hI (fun _ _=>rfl) (fun _=>rfl),m2⟩
theorem q9w {Γ Γ':Cx} {xs ys:List AV} {v:Value} (hl:ys.length=xs.length) (h:∀ (i:Nat) (a:AV),ys[i]?=some a→∃ a0,xs[i]?=some a0∧∀ v,Ra w Γ a0 v→Ra w Γ' a v) (hr:Ra w Γ (resS xs) v):Ra w Γ' (resS ys) v:=by
 have key:∀ us,Fa w Γ xs us→Fa w Γ' ys us:=fun us hf=>Fa.of_get (by rw [hl,hf.length]) fun i a ha=>by
  obtain ⟨a0,h1,h2⟩:=h i a ha;obtain ⟨u,h3,h4⟩:=hf.get i a0 h1;exact ⟨u,h3,h2 u h4⟩
 match xs,ys,hl with
 | [],[],_ =>
  simp only [resS,Ra,Rp,wa0,and_true] at hr ⊢;obtain ⟨us,e,hr⟩:=hr;exact ⟨us,e,qds.2 (key us (qds.1 hr))⟩
 | [x],[y],_ =>
  simp only [resS] at hr ⊢;exact (key [v] ⟨hr,trivial⟩).1
 | x::x'::xs,y::y'::ys,_ =>
  simp only [resS,Ra,Rp,wa0,and_true] at hr ⊢;obtain ⟨us,e,hr⟩:=hr;exact ⟨us,e,qds.2 (key us (qds.1 hr))⟩
end
def posN:List Nat→Nat→Option Nat
 | [],_=>none
 | x::l,b=>match Nat.beq x b with
  | true=>some 0
  | false=>match posN l b with
   | some j=>some (j+1)
   | none=>none
def qio:List Nat→Bool
 | []=>true
 | x::l=>match posN l x with
  | none=>qio l
  | some _=>false
def qu5 (H:List Hs) (b:Nat):Bool:=match H[b]? with
 | some .free=>false
 | some _=>true
 | none=>false
def nmOk (H:List Hs):List (Option Nat)→List Nat→Bool
 | [],[]=>true
 | none::ρ,n::nm=>qay H n && nmOk H ρ nm
 | some b::ρ,n::nm=>Nat.beq b n && qu5 H n && nmOk H ρ nm
 | _,_=>false
def qx8:Nat→List (Option Nat)→List Nat
 | _,[]=>[]
 | base,some b::l=>b::qx8 base l
 | base,none::l=>base::qx8 (Nat.succ base) l
def qmw:List (Option Nat)→List Nat
 | []=>[]
 | some b::l=>b::qmw l
 | none::l=>qmw l
def zipH:List Nat→List Hs→List (Nat×Hs)
 | n::l,h::hs=>(n,h)::zipH l hs
 | _,_=>[]
theorem qfr:∀ {l:List Nat} {b j:Nat},posN l b=some j→l[j]?=some b
 | x::l,b,j,h=>by
  simp only [posN] at h;split at h
  ·rename_i hx;cases h;rw [wai hx];rfl
  ·split at h
   ·rename_i j' hj;cases h;simpa using qfr hj
   ·cases h
theorem qhd:∀ {l:List Nat} {b:Nat},posN l b=none→b∉l
 | [],b,_=>by simp
 | x::l,b,h=>by
  simp only [posN] at h;split at h
  ·cases h
  ·rename_i hx;split at h
   ·cases h
   ·rename_i hn;have:=qhd hn;simp only [List.mem_cons,not_or];exact ⟨fun h=>(by rw [h,Nat.beq_refl] at hx;cases hx),this⟩
theorem qq9:∀ {l:List Nat} {b j:Nat},qio l=true→l[j]?=some b→posN l b=some j
 | x::l,b,0,_,hj=>by
  simp only [wa6,waz] at hj;subst hj;simp [posN]
 | x::l,b,j+1,h,hj=>by
  simp only [wa4] at hj;simp only [qio] at h;split at h
  ·rename_i hx;have hne:x≠b:=fun e=>qhd hx (e▸wbi hj)
   have:Nat.beq x b=false:=Bool.eq_false_iff.2 fun h=>hne (wai h)
   simp only [posN,this,qq9 h hj]
  ·cases h
theorem q4d {l:List Nat} {b:Nat} (h:b∈l):∃ j,posN l b=some j:=by
 cases hp:posN l b with
 | none=>exact absurd h (qhd hp)
 | some j=>exact ⟨j,rfl⟩
theorem qre:∀ {l:List Nat} {j b:Nat},l[j]?=some b→nmAt l j=b
 | x::l,0,b,h=>by simpa [nmAt] using h
 | x::l,j+1,b,h=>by simp only [nmAt];exact qre (by simpa using h)
theorem qnz:∀ {ρ:List (Option Nat)} {nm:List Nat},nmOk H ρ nm=true→nm.length=ρ.length∧∀ (j n:Nat),nm[j]?=some n→(ρ[j]?=some none∧qay H n=true)∨(ρ[j]?=some (some n)∧qu5 H n=true)
 | [],[],_=>⟨rfl,fun j n h=>by simp at h⟩
 | none::ρ,n::nm,h=>by
  simp only [nmOk,wa3] at h;obtain ⟨k1,k2⟩:=qnz h.2;refine ⟨by simp [k1],fun j b hb=>?_⟩
  cases j with
  | zero=>simp at hb;subst hb;exact .inl ⟨rfl,h.1⟩
  | succ j=>simpa using k2 j b (by simpa using hb)
 | some b0::ρ,n::nm,h=>by
  simp only [nmOk,wa3] at h;obtain ⟨k1,k2⟩:=qnz h.2;refine ⟨by simp [k1],fun j b hb=>?_⟩
  cases j with
  | zero =>
   simp at hb;subst hb;have:b0=n:=by simpa using h.1.1
   subst this;exact .inr ⟨rfl,h.1.2⟩
  | succ j=>simpa using k2 j b (by simpa using hb)
 | [],_::_,h=>by simp [nmOk] at h
 | _::_,[],h=>by rename_i x _;cases x<;>simp [nmOk] at h
theorem qy6:∀ {nm:List Nat} {hs H:List Hs},nm.length=hs.length→qio nm=true→(∀ b∈nm,b<H.length)→∀ b,(qar H (zipH nm hs))[b]?=match posN nm b with
  | some j=>hs[j]?
  | none=>H[b]?
 | [],[],H,_,_,_,b=>rfl
 | n::nm,h::hs,H,hl,hn,hb,b=>by
  simp only [zipH,qar];simp only [qio] at hn;split at hn
  ·rename_i hx;rw [qy6 (by simpa using hl) hn (fun c hc=>by rw [waj];exact hb c (wam _ hc))]
   simp only [posN];have hnl:=hb n (way ..)
   cases hp:posN nm b with
   | none =>
    rw [q8a hnl]
    by_cases hbn:n=b
    ·subst hbn;simp
    ·have:Nat.beq n b=false:=Bool.eq_false_iff.2 fun h=>hbn (wai h)
     rw [if_neg (fun h=>hbn h.symm)]
     simp only [this]
   | some j =>
    have hne:n≠b:=fun e=>by subst e;rw [hx] at hp;cases hp
    have:Nat.beq n b=false:=Bool.eq_false_iff.2 fun h=>hne (wai h)
    simp only [this,wa4]
  ·cases hn
 | [],_::_,_,hl,_,_,_=>by simp at hl
 | _::_,[],_,hl,_,_,_=>by simp at hl
def Cx.back (Γ Γ1:Cx) (nm:List Nat):Cx where
 I:=Γ1.I
 A:=fun b=>Γ.A b∨b∈nm
 ν:=fun b=>match posN nm b with
  | some j=>Γ1.ν j
  | none=>Γ.ν b
 κ:=fun b=>match posN nm b with
  | some j=>Γ1.κ j
  | none=>Γ.κ b
 R:=fun b=>match posN nm b with
  | some j=>Γ1.R j
  | none=>Γ.R b
theorem q45 {b:Nat} (h:qu5 H b=true):∃ x,H[b]?=some x∧x≠.free:=by
 unfold qu5 at h;split at h
 ·cases h
 ·rename_i x hx hh;exact ⟨x,hh,fun e=>hx (e▸rfl)⟩
 ·cases h
theorem zex (e:EmbH Γ H w) {ρ:List (Option Nat)} {k:Nat} {nm:List Nat} (hnm:nmOk H (ρ++List.replicate k none) nm=true) (hnd:qio nm=true) {Hi Ho0 Ho:List Hs} {Γ1:Cx}
  (hwr:∀ n,Wr (Γ.head 0 ρ noA) Hi n→∃ (j c:Nat),ρ[j]?=some (some c)∧OwnB Γ H c n) (hx:Ext (Γ.head 0 ρ noA) Hi w Γ1 Ho0 w') (em1:EmbH Γ1 Ho0 w')
  (hl:Ho.length=nm.length) (hnf:∀ (j:Nat) (x:Hs),Ho[j]?=some x→x≠.free)
  (hrn:∀ (j:Nat) (B:Blk),Ho[j]?=some (.live B)→∃ B0,Ho0[j]?=some (.live B0)∧(∀ t r o,B=.nest t r o→∃ t r o,B0=.nest t r o)∧∀ b',(Γ.back Γ1 nm).ν b'=Γ1.ν j→(Γ.back Γ1 nm).κ b'=Γ1.κ j→(Γ.back Γ1 nm).R b'=Γ1.R j→RepB w' Γ1 j B0→RepB w' (Γ.back Γ1 nm) b' B) (hnw:∀ (j c i:Nat) (f:Bool),Ho[j]?≠some (.view c i f))
  (hV:∀ (m b i:Nat) (f:Bool) (j:Nat),H[m]?=some (.view b i f)→posN nm b=some j→¬ Nest Ho j) :
  Ext Γ H w (Γ.back Γ1 nm) (qar H (zipH nm Ho)) w'∧EmbH (Γ.back Γ1 nm) (qar H (zipH nm Ho)) w':=by
 obtain ⟨hl1,hsp⟩:=qnz hnm;have hlt:∀ b∈nm,b<H.length:=fun b hb=>by
  obtain ⟨j,hj⟩:=q4d hb
  rcases hsp j b (qfr hj) with ⟨_,h⟩ | ⟨_,h⟩
  ·exact qbf (qbp h)
  ·obtain ⟨x,hx,_⟩:=q45 h;exact qbf hx
 have hget:∀ b,(qar H (zipH nm Ho))[b]?=match posN nm b with
  | some j=>Ho[j]?
  | none=>H[b]?:=qy6 hl.symm hnd hlt
 have hν:∀ {b j:Nat},posN nm b=some j→(Γ.back Γ1 nm).ν b=Γ1.ν j:=fun h=>by simp only [Cx.back,h]
 have hκ:∀ {b j:Nat},posN nm b=some j→(Γ.back Γ1 nm).κ b=Γ1.κ j:=fun h=>by simp only [Cx.back,h]
 have hν':∀ {b:Nat},posN nm b=none→(Γ.back Γ1 nm).ν b=Γ.ν b:=fun h=>by simp only [Cx.back,h]
 have hκ':∀ {b:Nat},posN nm b=none→(Γ.back Γ1 nm).κ b=Γ.κ b:=fun h=>by simp only [Cx.back,h]
 have hA:∀ b,Γ.A b→(Γ.back Γ1 nm).A b∧(Γ.back Γ1 nm).ν b=Γ.ν b∧(Γ.back Γ1 nm).κ b=Γ.κ b:=fun b hb=>by
  refine ⟨.inl hb,?_⟩
  cases hp:posN nm b with
  | none=>exact ⟨hν' hp,hκ' hp⟩
  | some j =>
   rcases hsp j b (qfr hp) with ⟨_,h⟩ | ⟨h,_⟩
   ·obtain ⟨x,hx,hne⟩:=(e.al b).1 hb;rw [qbp h] at hx;cases hx;exact absurd rfl hne
   ·have h':ρ[j]?=some (some b):=by
     rcases Nat.lt_or_ge j ρ.length with h1 | h1
     ·rwa [waf h1] at h
     ·rw [wag h1,wax] at h;split at h<;>cases h
    obtain ⟨g1,g2,g3⟩:=(Nm.head (Γ:=Γ) (len:=0) (ρ:=ρ) (A0:=noA)).so j b h';rw [qau (qb6 h'),wa7] at g1 g2 g3;obtain ⟨_,f2,f3⟩:=hx.al j g1;rw [hν hp,hκ hp];exact ⟨f2.trans g2,f3.trans g3⟩
 have hlive:∀ {b:Nat} {B:Blk},(qar H (zipH nm Ho))[b]?=some (.live B)→(∃ j,posN nm b=some j∧Ho[j]?=some (.live B))∨(posN nm b=none∧H[b]?=some (.live B)):=fun {b B} h=>by
  rw [hget] at h;split at h
  ·rename_i j hj;exact .inl ⟨j,hj,h⟩
  ·rename_i hj;exact .inr ⟨hj,h⟩
 have hL0:∀ {j:Nat} {B:Blk},Ho[j]?=some (.live B)→Live Ho0 j:=fun h=>by
  obtain ⟨B0,h0,_⟩:=hrn _ _ h;exact ⟨B0,h0⟩
 have hN0:∀ {j:Nat},Nest Ho j→Nest Ho0 j:=fun ⟨t,r,o,h⟩=>by
  obtain ⟨B0,h0,hn,_⟩:=hrn _ _ h;obtain ⟨t',r',o',rfl⟩:=hn t r o rfl;exact ⟨t',r',o',h0⟩
 have hR:∀ {b j:Nat},posN nm b=some j→(Γ.back Γ1 nm).R b=Γ1.R j:=fun h=>by simp only [Cx.back,h]
 have hR':∀ {b:Nat},posN nm b=none→(Γ.back Γ1 nm).R b=Γ.R b:=fun h=>by simp only [Cx.back,h]
 have hO:∀ {b j:Nat},posN nm b=some j→(Γ.back Γ1 nm).O b=Γ1.O j:=fun h=>by funext n;exact propext (Cx.O_congr (hR h))
 have hO':∀ {b:Nat},posN nm b=none→(Γ.back Γ1 nm).O b=Γ.O b:=fun h=>by funext n;exact propext (Cx.O_congr (hR' h))
 have hsep:∀ {b n:Nat},posN nm b=none→OwnB Γ H b n→¬ Wr (Γ.head 0 ρ noA) Hi n:=fun {b n} hp hb h=>by
  obtain ⟨j,c,h1,h2⟩:=hwr _ h;have hcb:=e.own_eq h2 hb;subst hcb;have hj:=qb6 h1;have hjn:j<nm.length:=by rw [hl1,wae];omega
  have hg:=wab hjn
  rcases hsp j _ hg with ⟨h5,_⟩ | ⟨h5,_⟩
  ·rw [waf hj,h1] at h5;cases h5
  ·rw [waf hj,h1] at h5;simp only [waz] at h5;exact qhd hp (h5▸wap hjn)
 have hwr1:∀ n,Wr (Γ.head 0 ρ noA) Hi n→Wr Γ H n:=fun n h=>by
  obtain ⟨j,c,_,h2⟩:=hwr n h;exact h2.wr
 have hown:∀ {b n:Nat},OwnB (Γ.back Γ1 nm) (qar H (zipH nm Ho)) b n→(∃ j,posN nm b=some j∧OwnB Γ1 Ho0 j n)∨(posN nm b=none∧OwnB Γ H b n):=fun {b n} h=>by
  rcases h with ⟨⟨B,hb⟩,hk,he⟩ | ⟨⟨t,r,o,hb⟩,ho⟩
  ·rcases hlive hb with ⟨j,hj,h⟩ | ⟨hj,h⟩
   ·exact .inl ⟨j,hj,.inl ⟨hL0 h,by rw [hκ hj] at hk;exact hk,by rw [hν hj] at he;exact he⟩⟩
   ·exact .inr ⟨hj,.inl ⟨⟨B,h⟩,by rw [hκ' hj] at hk;exact hk,by rw [hν' hj] at he;exact he⟩⟩
  ·rcases hlive hb with ⟨j,hj,h⟩ | ⟨hj,h⟩
   ·exact .inl ⟨j,hj,.inr ⟨hN0 ⟨t,r,o,h⟩,by rw [hO hj] at ho;exact ho⟩⟩
   ·exact .inr ⟨hj,.inr ⟨⟨t,r,o,h⟩,by rw [hO' hj] at ho;exact ho⟩⟩
 have hapart:∀ {b j n:Nat},posN nm b=none→OwnB Γ H b n→OwnB Γ1 Ho0 j n→False:=fun {b j n} hp h h'=>by
  rcases hx.wr n h'.wr with h1 | h1
  ·exact hsep hp h h1
  ·have:=e.own_lt h;omega
 have huniq:∀ {b b' n:Nat},OwnB (Γ.back Γ1 nm) (qar H (zipH nm Ho)) b n→OwnB (Γ.back Γ1 nm) (qar H (zipH nm Ho)) b' n→b=b':=fun {b b' n} h h'=>by
  rcases hown h with ⟨j,hj,h1⟩ | ⟨hj,h1⟩<;>rcases hown h' with ⟨j',hj',h1'⟩ | ⟨hj',h1'⟩
  ·have:=em1.own_eq h1 h1';subst this;have g:=qfr hj;rw [qfr hj'] at g;cases g;rfl
  ·exact (hapart hj' h1' h1).elim
  ·exact (hapart hj h1 h1').elim
  ·exact e.own_eq h1 h1'
 have himm:∀ {b n:Nat},OwnB (Γ.back Γ1 nm) (qar H (zipH nm Ho)) b n→¬ Γ1.I n:=fun {b n} h hI=>by
  rcases hown h with ⟨j,hj,h1⟩ | ⟨hj,h1⟩
  ·exact em1.own_imm h1 hI
  ·rcases hx.im _ hI with h2 | h2 | h2
   ·exact e.own_imm h1 h2
   ·exact hsep hj h1 h2
   ·have:=e.own_lt h1;omega
 refine ⟨⟨fun n hn hw=>hx.fr n hn fun h=>hw (hwr1 n h),hx.size,hx.os,hx.out,fun n hw=>?_,fun n hn=>?_,fun n hn=>hx.mi n hn,hA⟩,?_⟩
 ·obtain ⟨b,hb⟩:=q2g hw
  rcases hown hb with ⟨j,hj,h⟩ | ⟨hj,h⟩
  ·rcases hx.wr n h.wr with h1 | h1
   ·exact .inl (hwr1 n h1)
   ·exact .inr h1
  ·exact .inl h.wr
 ·rcases hx.im n hn with h | h | h
  ·exact .inl h
  ·exact .inr (.inl (hwr1 n h))
  ·exact .inr (.inr h)
 ·refine ⟨fun b B hB=>?_,fun b b' hb hb' hk hk' he=>huniq (.inl ⟨hb,hk,rfl⟩) (.inl ⟨hb',hk',he.symm⟩),fun b hb hk=>himm (.inl ⟨hb,hk,rfl⟩),em1.old,fun b=>?_,
   ⟨fun b b' n h h' ho ho'=>huniq (.inr ⟨h,ho⟩) (.inr ⟨h',ho'⟩),fun b b' n h h' hk ho he=>?_,fun b n h ho=>himm (.inr ⟨h,ho⟩),fun b n h ho=>?_,fun b i i' h h1 h2 h3=>?_⟩,fun m b i f hm=>?_⟩
  ·rcases hlive hB with ⟨j,hj,h⟩ | ⟨hj,h⟩
   ·obtain ⟨B0,h0,_,hr⟩:=hrn j B h;exact hr b (hν hj) (hκ hj) (hR hj) (em1.blk j B0 h0)
   ·refine RepB.mono (w:=w) (w':=w') (Γ:=Γ) (fun n h=>hx.mi n h) (fun m hm=>hx.fr m (e.old m hm) fun hc=>?_) hA (e.alive ⟨B,h⟩) (fun hk=>hx.fr _ (e.lt ⟨B,h⟩ hk) (hsep hj (.inl ⟨⟨B,h⟩,hk,rfl⟩)))
     (fun t r o hbn=>⟨hR' hj,fun n hn=>hx.fr n (e.rows.lt b n ⟨t,r,o,hbn▸h⟩ hn) (hsep hj (.inr ⟨⟨t,r,o,hbn▸h⟩,hn⟩))⟩) (e.blk b B h)
    obtain ⟨_,c,_,h2⟩:=hwr _ hc;exact e.own_imm h2 hm
  ·rw [hget]
   cases hp:posN nm b with
   | none =>
    simp only;refine Iff.trans ?_ (e.al b);exact ⟨fun h=>h.elim id fun h=>absurd h (qhd hp),.inl⟩
   | some j =>
    simp only;have h1:=qfr hp;have hj:=qb6 h1;rw [← hl] at hj;exact ⟨fun _=>⟨_,wab hj,hnf j _ (wab hj)⟩,fun _=>.inr (wbi h1)⟩
  ·have hbb:=huniq (.inr ⟨h,ho⟩) (.inl ⟨h',hk,he⟩);subst hbb;obtain ⟨t,r,o,hb⟩:=h
   rcases hlive hb with ⟨j,hj,g⟩ | ⟨hj,g⟩
   ·rw [hO hj] at ho;rw [hκ hj] at hk;rw [hν hj] at he;exact em1.rows.main j j n (hN0 ⟨t,r,o,g⟩) (hL0 g) hk ho he
   ·rw [hO' hj] at ho;rw [hκ' hj] at hk;rw [hν' hj] at he;exact e.rows.main b b n ⟨t,r,o,g⟩ ⟨_,g⟩ hk ho he
  ·rcases hown (.inr ⟨h,ho⟩) with ⟨j,hj,h1⟩ | ⟨hj,h1⟩
   ·exact em1.own_lt h1
   ·exact Nat.lt_of_lt_of_le (e.own_lt h1) hx.size
  ·obtain ⟨t,r,o,hb⟩:=h
   rcases hlive hb with ⟨j,hj,g⟩ | ⟨hj,g⟩
   ·rw [hR hj] at h1 h2 h3;exact em1.rows.one j i i' (hN0 ⟨t,r,o,g⟩) h1 h2 h3
   ·rw [hR' hj] at h1 h2 h3;exact e.rows.one b i i' ⟨t,r,o,g⟩ h1 h2 h3
  ·rw [hget] at hm;split at hm
   ·exact absurd hm (hnw _ _ _ _)
   ·rename_i hpm;obtain ⟨v1,v2,v3⟩:=e.vwA hm;refine ⟨(hA b v2).1,fun t r o hb hi=>?_⟩
    rcases hlive hb with ⟨j,hj,g⟩ | ⟨hj,g⟩
    ·exact absurd ⟨t,r,o,g⟩ (hV m b i f j hm hj)
    ·obtain ⟨_,q1,q2⟩:=hA m v1;rw [q1,q2,hR' hj];exact v3 t r o g hi
end
def SCon.eff0 (c:SCon) (H:List Hs) (base:Nat) (args:List AV):Option Ef :=
 match qib (qfi c.ins args) H c.ins c.ibl args with
 | some (ρ,p,env)=>match c.pre env,c.F env with
  | some q,some r=>match ρ++List.replicate (c.obl.length-ρ.length) none with
   | ρ'=>match qx8 base ρ' with
    | nm=>match nmOk H ρ' nm && (qio nm && (Nat.beq nm.length c.obl.length && (plC c.obl.length c.outs && plB c.obl.length c.obl))) with
     | true=>some ⟨p++q,resS (stV nm c.outs c.obl (qba _ r)),zipH nm (stB nm c.outs c.obl (qba _ r)),qmw ρ⟩
     | false=>none
  | _,_=>none
 | none=>none
def qgm:List TB→Bool
 | []=>false
 | .nest _::_=>true
 | _::l=>qgm l
def qoh:Nat→List Hs→List (Nat×Hs)
 | _,[]=>[]
 | n,.view ..::H=>(n,.dead)::qoh (n+1) H
 | n,_::H=>qoh (n+1) H
def qe4 (h:Hs):Hs:=match h with
 | .view ..=>.dead
 | h=>h
def SCon.eff (c:SCon) (H:List Hs) (base:Nat) (args:List AV):Option Ef:=match qgm c.obl with
 | false=>c.eff0 H base args
 | true=>match c.eff0 (H.map qe4) base args with
  | some e=>some ⟨e.ob,e.v,qoh 0 H++e.up,allN H⟩
  | none=>none
def qm6:(ts:List Ty)→List AV→Option (Dens ts)
 | [],[]=>some ()
 | t::ts,x::xs=>match asD t x,qm6 ts xs with
  | some y,some r=>some (y,r)
  | _,_=>none
 | _,_=>none
def qom (m:Bool):(ts:List Ty)→Dens ts→Dens ts→Dens ts
 | [],_,_=>()
 | _::ts,x,y=>(cond m x.1 y.1,qom m ts x.2 y.2)
theorem qp4:∀ {ts:List Ty} {x y:Dens ts},qom true ts x y=x
 | [],_,_=>rfl
 | t::ts,x,y=>by simp only [qom,wbb,qp4];rfl
theorem qn2:∀ {ts:List Ty} {x y:Dens ts},qom false ts x y=y
 | [],_,_=>rfl
 | t::ts,x,y=>by simp only [qom,cond_false,qn2];rfl
def SCon.skip (c:SCon) (env:List AV):Option (List Prop×Dens (c.outs.flatMap TV.ts++tsB c.obl)) :=
 match qib (qu7 0 c.ibl.length) (stB (qa3 0 c.ibl.length) c.ins c.ibl env) [] c.obl [] with
 | some (ρ,q,e)=>match idOk 0 c.ibl.length ρ,qm6 (c.outs.flatMap TV.ts++tsB c.obl) (q58 (c.outs.flatMap TV.ts)++e) with
  | true,some r=>some (q,r)
  | _,_=>none
 | none=>none
def SCon.effM (c:SCon) (m:Bool) (H:List Hs) (base:Nat) (args:List AV):Option Ef:=match qgm c.obl with
 | true=>none
 | false=>match qib (qfi c.ins args) H c.ins c.ibl args with
  | some (ρ,p,env)=>match c.pre env,c.F env,c.skip env with
    | some q,some r,some (q0,r0)=>match ρ++List.replicate (c.obl.length-ρ.length) none with
      | ρ'=>match qx8 base ρ' with
        | nm=>match nmOk H ρ' nm && (qio nm && (Nat.beq nm.length c.obl.length && (plC c.obl.length c.outs && plB c.obl.length c.obl))) with
          | true=>some ⟨p++(impP (m=true) q++impP (m=false) q0),resS (stV nm c.outs c.obl (qba _ (qom m _ r r0))),zipH nm (stB nm c.outs c.obl (qba _ (qom m _ r r0))),qmw ρ⟩
          | false=>none
    | _,_,_=>none
  | none=>none
def qpg:List AV→Option (Bool×List AV)
 | .cons (.val .bool m) (.cons .nil .nil)::l=>some (m,l)
 | _=>none
def zey:List AV→List AV
 | .cons _ _::l=>l
 | l=>l
def fitV:TV→AV→Bool
 | .v _,.sl ..=>false
 | .v _,.ref ..=>false
 | .v _,.mref _=>false
 | .v _,.fn ..=>false
 | .v _,_=>true
 | .opt _,_=>true
 | .u,_=>true
 | .sl ..,.sl ..=>true
 | .slf ..,.sl ..=>true
 | .slf ..,.vsl ..=>true
 | .ref ..,.ref ..=>true
 | .mref _,.mref _=>true
 | .fn f _,.fn g _=>Nat.beq f g
 | _,_=>false
def fitC:List TV→List AV→Bool
 | [],[]=>true
 | tv::l,x::xs=>fitV tv x && fitC l xs
 | _,_=>false
def frzB:List TV→List AV→List Nat
 | .v _::l,.sl b _ _ _ _::xs=>b::frzB l xs
 | _::l,_::xs=>frzB l xs
 | _,_=>[]
def frzA (H:List Hs):List TV→List AV→Option (List Prop×List AV)
 | [],[]=>some ([],[])
 | .v t::l,.sl b s i n c::xs=>match rvV H t (.sl b s i n c),frzA H l xs with
  | some (p,y),some (q,ys)=>some (p++q,.val t y::ys)
  | _,_=>none
 | _::l,x::xs=>match frzA H l xs with
  | some (q,ys)=>some (q,x::ys)
  | none=>none
 | _,_=>none
def qmr:List Nat→List (Nat×Hs)
 | []=>[]
 | b::l=>(b,.dead)::qmr l
def SCon.effF (c:SCon) (H:List Hs) (base:Nat) (args:List AV):Option Ef :=
 match frzB c.ins args with
 | K=>match frzA (qc7 K 0 (H.map qe4)) c.ins args with
  | some (p,ys)=>match c.eff (qar H (qmr K)) base ys with
   | some e=>some ⟨p++e.ob,e.v,qmr K++e.up,K++e.rd⟩
   | none=>none
  | none=>none
def SCon.effC (c:SCon) (H:List Hs) (base:Nat) (args:List AV):Option Ef:=match c.ins,c.ibl,c.outs,c.obl,args with
 | [.v t],[],[.slf 0 s],[.arr t' true],[.sl b s' i n cc]=>match flat t',qay H base with
  | true,true=>match rvV H t (.sl b s' i n cc) with
   | some (p,y)=>match c.pre [.val t y],c.F [.val t y] with
    | some q,some r=>some ⟨p++q,resS (stV [base] c.outs c.obl (qba _ r)),zipH [base] (stB [base] c.outs c.obl (qba _ r)),qbj 0 H⟩
    | _,_=>none
   | none=>none
  | _,_=>none
 | _,_,_,_,_=>none
def SCon.isCl (c:SCon) (args:List AV):Bool:=match c.ins,c.ibl,c.outs,c.obl,args with
 | [.v _],[],[.slf 0 _],[.arr t' true],[.sl ..]=>flat t'
 | _,_,_,_,_=>false
def SCon.effCF (c:SCon) (H:List Hs) (base:Nat) (args:List AV):Option Ef:=match c.isCl args with
 | true=>c.effC H base args
 | false=>c.effF H base args
def fitW:TV→AV→Bool
 | .v _,.sl ..=>true
 | tv,x=>fitV tv x
def fitK:List TV→List AV→Bool
 | [],[]=>true
 | tv::l,x::xs=>fitW tv x && fitK l xs
 | _,_=>false
def spS:List SCon→List Con→Spec
 | [],cs,f,H,base,args=>spOf cs f H base args
 | c::ss,cs,f,H,base,args=>match Nat.beq c.f f && fitC c.ins (zey args) with
  | true=>match qpg args with
   | some (m,l)=>match c.effM m H base l with
    | some e=>e
    | none=>.fail
   | none=>match c.eff H base args with
    | some e=>e
    | none=>.fail
  | false=>match Nat.beq c.f f && (qxk args && fitK c.ins args) with
   | true=>match c.effCF H base args with
    | some e=>e
    | none=>.fail
   | false=>spS ss cs f H base args
section
variable {w:World} {Γ:Cx} {H H':List Hs}
theorem SCon.eff0_some {c:SCon} {base:Nat} {args:List AV} {e:Ef} (h:c.eff0 H base args=some e):∃ ρ p env q r nm,qib (qfi c.ins args) H c.ins c.ibl args=some (ρ,p,env)∧c.pre env=some q∧c.F env=some r ∧
  nm=qx8 base (ρ++List.replicate (c.obl.length-ρ.length) none)∧nmOk H (ρ++List.replicate (c.obl.length-ρ.length) none) nm=true∧qio nm=true∧nm.length=c.obl.length∧plC c.obl.length c.outs=true∧plB c.obl.length c.obl=true ∧
  e=⟨p++q,resS (stV nm c.outs c.obl (qba _ r)),zipH nm (stB nm c.outs c.obl (qba _ r)),qmw ρ⟩:=by
 unfold SCon.eff0 at h;split at h
 ·rename_i ρ p env hr;split at h
  ·rename_i q r h1 h2;simp only at h;split at h
   ·rename_i hh;cases h;simp only [wa3] at hh;exact ⟨ρ,p,env,q,r,_,hr,h1,h2,rfl,hh.1,hh.2.1,wai hh.2.2.1,hh.2.2.2.1,hh.2.2.2.2,rfl⟩
   ·cases h
  ·cases h
 ·cases h
theorem qdv {nm:List Nat} {tvs:List TV} {bl:List TB} {env:List AV}:(stB nm tvs bl env).length=bl.length:=qby
theorem qi1 {nm lens:List Nat}:∀ {bl:List TB} {env:List AV} {j:Nat},qgm bl=false→¬ Nest (qbg nm lens bl env) j
 | [],_,_,_,⟨t,r,o,h⟩=>by simp [qbg] at h
 | tb::bl,env,0,hn,⟨t,r,o,h⟩=>by
  simp only [qbg,wa6,waz] at h;cases tb<;>simp [qc4,qgm] at h hn
 | tb::bl,env,j+1,hn,⟨t,r,o,h⟩=>by
  simp only [qbg,wa4] at h;have hn':qgm bl=false:=by cases tb<;>simp [qgm] at hn ⊢<;>exact hn
  exact qi1 hn' ⟨t,r,o,h⟩
theorem qqz {P:Program} {c:SCon} (hc:c.Ok P) (hvv:qgm c.obl=false∨∀ (m b i:Nat) (f:Bool),H[m]?≠some (.view b i f)) {base:Nat} {args:List AV} {e:Ef} (he:c.eff0 H base args=some e) (hob:allP e.ob) (em:EmbH Γ H w) {vs:List Value} (hf:Fa w Γ args vs) :
  Calls P c.f vs.toArray w fun en w'=>∃ v Γ',en=.returned v∧Ext Γ H w Γ' (qar H e.up) w'∧EmbH Γ' (qar H e.up) w'∧Ra w' Γ' e.v v:=by
 obtain ⟨ρ,p,env,q,r,nm,hr,h1,h2,hnm0,hnm,hnd,hlen,hp1,hp2,rfl⟩:=SCon.eff0_some he;obtain ⟨hp,hq⟩:=qag.1 hob;obtain ⟨k1,k2,k3,k4,k5⟩:=qjg em hr hp;refine Calls.mono (hc.2 _ w env q r vs k3 k2 h1 h2 hq (k5 vs hf)) fun en w' hen=>?_
 obtain ⟨v,Γ1,rfl,hx,em1,hv⟩:=hen;have hI:∀ b,Γ1.I b→(Γ.back Γ1 nm).I b:=fun _ h=>h
 have hV:∀ (m b i:Nat) (f:Bool) (j:Nat),H[m]?=some (.view b i f)→posN nm b=some j→¬ Nest (stB nm c.outs c.obl (qba _ r)) j:=fun m b i f j hm _ hN=>by
  rcases hvv with h | h
  ·exact qi1 h hN
  ·exact h m b i f hm
 have hrr:∀ j,j<c.obl.length→(Γ.back Γ1 nm).A (nmAt nm j)∧(Γ.back Γ1 nm).ν (nmAt nm j)=Γ1.ν (nmAt (qa3 0 c.obl.length) j)∧(Γ.back Γ1 nm).κ (nmAt nm j)=Γ1.κ (nmAt (qa3 0 c.obl.length) j):=fun j hj=>by
  have hj':j<nm.length:=by omega
  have hg:=wab hj';rw [qre hg,qau hj,wa7];have hp:=qq9 hnd hg;exact ⟨.inr (wap hj'),by simp only [Cx.back,hp],by simp only [Cx.back,hp]⟩
 have hve:VE (qba _ r):=qrs.ve;obtain ⟨a1,a2⟩:=zex em hnm hnd k4 hx em1 (Ho:=stB nm c.outs c.obl (qba _ r)) (by rw [qdv,hlen]) (fun j x hx=>qel hx) (fun j B hB=>by
  obtain ⟨B0,g1,g3,g2⟩:=qnk (w:=w') hI hrr hp2 hve.drop j B hB;exact ⟨B0,g1,g3,fun b' hν hκ hR hb=>g2 j b' hν hκ hR hb⟩) (fun j c i f=>qit hp2) hV
 refine ⟨v,_,rfl,a1,a2,?_⟩;obtain ⟨g1,g2⟩:=qmk (w:=w') (lens:=stL c.obl c.outs (qba _ r)) hI hrr hp1 hve;exact q9w g1 g2 hv
theorem qny:∀ {H K:List Hs},qar (K++H) (qoh K.length H)=K++H.map qe4
 | [],K=>by simp [qoh,qar]
 | h::H,K=>by
  have ih:∀ {K:List Hs},qar (K++H) (qoh K.length H)=K++H.map qe4:=qny (H:=H);have skip:∀ h',qar (K++h'::H) (qoh (K.length+1) H)=K++h'::H.map qe4:=fun h'=>by
   have:=ih (K:=K++[h']);simpa using this
  cases h with
  | view b' i f =>
   simp only [qoh,wbd,qe4,qar];rw [List.set_append_right _ _ (wad _),Nat.sub_self,List.set_cons_zero];exact skip .dead
  | free=>exact skip _
  | dead=>exact skip _
  | live B=>exact skip _
theorem q5k:qar H (qoh 0 H)=H.map qe4:=qny (K:=[])
theorem qdl {d:Nat} {B:Blk}:(H.map qe4)[d]?=some (.live B)↔H[d]?=some (.live B):=by
 rw [wao]
 cases h:H[d]? with
 | none=>simp
 | some x=>cases x<;>simp [qe4]
theorem qka {d b i:Nat} {f:Bool}:(H.map qe4)[d]?≠some (.view b i f):=by
 rw [wao]
 cases h:H[d]? with
 | none=>simp
 | some x=>cases x<;>simp [qe4]
theorem EmbH.killAs (e:EmbH Γ H w):EmbH Γ (H.map qe4) w∧Ext Γ H w Γ (H.map qe4) w:=by
 refine e.stepP (fun _=>False) rfl (fun _ h=>⟨h,rfl,rfl⟩) (fun d=>?_) (fun _ _ _=>rfl) (fun _ h=>h.elim) some (fun q hq h0=>.inl ⟨q,rfl,?_,h0,rfl⟩) (fun _ _ _ _ _ _ h=>by cases h;rfl)
  (fun d B hd=>.inr ⟨qdl.1 hd,fun _=>id,fun _=>⟨rfl,fun _ _=>id⟩⟩) (e.vw_keep (fun _ h=>⟨h,rfl,rfl⟩) (fun m' b' i' f' hm'=>absurd hm' qka) fun d t2 rows2 ho2 _ hd=>⟨rfl,t2,rows2,ho2,qdl.1 hd,wad _⟩) (wad _) rfl rfl
 ·rw [e.al,wao]
  cases h:H[d]? with
  | none=>simp
  | some x=>cases x<;>simp [qe4]
 ·obtain ⟨d,oo⟩:=q
  cases oo with
  | none=>obtain ⟨B,h⟩:=hq;exact ⟨B,qdl.1 h⟩
  | some j=>obtain ⟨t,r,o,h⟩:=hq;exact ⟨t,r,o,qdl.1 h⟩
theorem qz3 {P:Program} {c:SCon} (hc:c.Ok P) {base:Nat} {args:List AV} {e:Ef} (he:c.eff H base args=some e) (hob:allP e.ob) (em:EmbH Γ H w) {vs:List Value} (hf:Fa w Γ args vs) :
  Calls P c.f vs.toArray w fun en w'=>∃ v Γ',en=.returned v∧Ext Γ H w Γ' (qar H e.up) w'∧EmbH Γ' (qar H e.up) w'∧Ra w' Γ' e.v v:=by
 unfold SCon.eff at he
 cases hn:qgm c.obl with
 | false=>rw [hn] at he;exact qqz hc (.inl hn) he hob em hf
 | true =>
  rw [hn] at he
  cases h0:c.eff0 (H.map qe4) base args with
  | none=>rw [h0] at he;cases he
  | some e0 =>
   rw [h0] at he;cases he;obtain ⟨k1,k2⟩:=em.killAs;refine Calls.mono (qqz hc (.inr fun m b i f=>qka) h0 hob k1 hf) fun en w' hen=>?_
   obtain ⟨v,Γ',g1,g2,g3,g4⟩:=hen;have hup:qar H (qoh 0 H++e0.up)=qar (H.map qe4) e0.up:=by rw [qfu,q5k]
   rw [hup];exact ⟨v,Γ',g1,k2.trans g2,g3,g4⟩
theorem SCon.effM_some {c:SCon} {m:Bool} {base:Nat} {args:List AV} {e:Ef} (h:c.effM m H base args=some e):qgm c.obl=false∧∃ ρ p env q r q0 r0 nm,qib (qfi c.ins args) H c.ins c.ibl args=some (ρ,p,env)∧c.pre env=some q∧c.F env=some r∧c.skip env=some (q0,r0) ∧
  nm=qx8 base (ρ++List.replicate (c.obl.length-ρ.length) none)∧nmOk H (ρ++List.replicate (c.obl.length-ρ.length) none) nm=true∧qio nm=true∧nm.length=c.obl.length∧plC c.obl.length c.outs=true∧plB c.obl.length c.obl=true ∧
  e=⟨p++(impP (m=true) q++impP (m=false) q0),resS (stV nm c.outs c.obl (qba _ (qom m _ r r0))),zipH nm (stB nm c.outs c.obl (qba _ (qom m _ r r0))),qmw ρ⟩:=by
 unfold SCon.effM at h
 cases hn:qgm c.obl with
 | true=>rw [hn] at h;cases h
 | false =>
 rw [hn] at h;refine ⟨rfl,?_⟩;simp only at h;split at h
 ·rename_i ρ p env hr;split at h
  ·rename_i q r q0 r0 h1 h2 h3;split at h
   ·rename_i hh;cases h;simp only [wa3] at hh;exact ⟨ρ,p,env,q,r,q0,r0,_,hr,h1,h2,h3,rfl,hh.1,hh.2.1,wai hh.2.2.1,hh.2.2.2.1,hh.2.2.2.2,rfl⟩
   ·cases h
  ·cases h
 ·cases h
theorem qmt:∀ {ts:List Ty} {env:List AV} {r:Dens ts},qm6 ts env=some r→env=qba ts r
 | [],[],r,_=>rfl
 | t::ts,x::xs,r,h=>by
  simp only [qm6] at h;split at h
  ·rename_i y r' h1 h2;cases h;have:x=.val t y:=by
    unfold asD at h1;split at h1
    ·obtain ⟨rfl,rfl⟩:=qat h1;rfl
    ·cases h1
   rw [qmt h2,this];rfl
  ·cases h
 | [],_::_,_,h=>by simp [qm6] at h
 | _::_,[],_,h=>by simp [qm6] at h
theorem q7u {c:SCon} {env:List AV} {q0:List Prop} {r0:Dens (c.outs.flatMap TV.ts++tsB c.obl)} (h:c.skip env=some (q0,r0)) (hq:allP q0) {Γ1:Cx} (em:EmbH Γ1 (stB (qa3 0 c.ibl.length) c.ins c.ibl env) w) :
  ∃ Γ2,Ext Γ1 (stB (qa3 0 c.ibl.length) c.ins c.ibl env) w Γ2 (stB (qa3 0 c.obl.length) c.outs c.obl (qba _ r0)) w∧EmbH Γ2 (stB (qa3 0 c.obl.length) c.outs c.obl (qba _ r0)) w:=by
 unfold SCon.skip at h;split at h
 ·rename_i ρ q e hr;split at h
  ·rename_i r hid hd;cases h;obtain ⟨k1,k2,k3,k4,k5⟩:=qjg em hr hq;have he:=qmt hd;have hst:stB (qa3 0 c.obl.length) c.outs c.obl (qba _ r0)=stB (qa3 0 c.obl.length) [] c.obl e:=by
    have hdr:qfq (cntC c.outs) (qba _ r0)=e:=by
     rw [← he];exact qc2 ((qr0 (ts:=c.outs.flatMap TV.ts)).length.trans qnp)
    simp only [stB,stL,hdr,cntC,qfq]
   rw [hst];refine ⟨Γ1.head 0 ρ noA,⟨fun _ _ _=>rfl,wad _,rfl,rfl,fun n hn=>?_,fun n hn=>.inl hn,fun n hn=>hn,fun b hb=>?_⟩,k3⟩
   ·obtain ⟨j,c',_,m2⟩:=k4 n hn;exact .inl m2.wr
   ·have hlt:b<c.ibl.length:=by
     obtain ⟨x,hx,_⟩:=(em.al b).1 hb;have:=qbf hx
     rwa [qdv] at this
    have hid':=qjd hid b hlt;rw [wa7] at hid';obtain ⟨f1,f2,f3⟩:=(Nm.head (Γ:=Γ1) (len:=0) (ρ:=ρ) (A0:=noA)).so b b hid';rw [qau (qb6 hid'),wa7] at f1 f2 f3;exact ⟨f1,f2,f3⟩
  ·cases h
 ·cases h
theorem q52 {P:Program} {c:SCon} (hc:c.Ok P) {m:Bool} {base:Nat} {args:List AV} {e:Ef} (he:c.effM m H base args=some e) (hob:allP e.ob) :
  (m=true→∀ (Γ:Cx) (w:World) (vs:List Value),EmbH Γ H w→Fa w Γ args vs→Calls P c.f vs.toArray w fun en w'=>∃ v Γ',en=.returned v∧Ext Γ H w Γ' (qar H e.up) w'∧EmbH Γ' (qar H e.up) w'∧Ra w' Γ' e.v v) ∧
  (m=false→∀ (Γ:Cx) (w:World),EmbH Γ H w→∃ Γ',Ext Γ H w Γ' (qar H e.up) w∧EmbH Γ' (qar H e.up) w):=by
 obtain ⟨hnt,ρ,p,env,q,r,q0,r0,nm,hr,h1,h2,h3,hnm0,hnm,hnd,hlen,hp1,hp2,rfl⟩:=SCon.effM_some he;obtain ⟨hp,hq⟩:=qag.1 hob;obtain ⟨hq,hq0⟩:=qag.1 hq;refine ⟨fun hm Γ w vs em hf=>?_,fun hm Γ w em=>?_⟩
 ·subst hm;have hq:=qe6.1 hq rfl;rw [qp4];have he':c.eff0 H base args=some ⟨p++q,resS (stV nm c.outs c.obl (qba _ r)),zipH nm (stB nm c.outs c.obl (qba _ r)),qmw ρ⟩:=by
   unfold SCon.eff0;rw [hr];simp only [h1,h2];rw [← hnm0];have hb:(Nat.beq nm.length c.obl.length)=true:=by rw [hlen];exact Nat.beq_refl _
   simp only [hnm,hnd,hb,hp1,hp2,Bool.and_self]
  exact qqz hc (.inl hnt) he' (qag.2 ⟨hp,hq⟩) em hf
 ·subst hm;have hq0:=qe6.1 hq0 rfl;rw [qn2];obtain ⟨k1,k2,k3,k4,k5⟩:=qjg em hr hp;obtain ⟨Γ1,hx,em1⟩:=q7u h3 hq0 k3;have hI:∀ b,Γ1.I b→(Γ.back Γ1 nm).I b:=fun _ h=>h
  have hrr:∀ j,j<c.obl.length→(Γ.back Γ1 nm).A (nmAt nm j)∧(Γ.back Γ1 nm).ν (nmAt nm j)=Γ1.ν (nmAt (qa3 0 c.obl.length) j)∧(Γ.back Γ1 nm).κ (nmAt nm j)=Γ1.κ (nmAt (qa3 0 c.obl.length) j):=fun j hj=>by
   have hj':j<nm.length:=by omega
   have hg:=wab hj';rw [qre hg,qau hj,wa7];have hp:=qq9 hnd hg;exact ⟨.inr (wap hj'),by simp only [Cx.back,hp],by simp only [Cx.back,hp]⟩
  have hve:VE (qba _ r0):=qrs.ve;exact ⟨_,zex em hnm hnd k4 hx em1 (Ho:=stB nm c.outs c.obl (qba _ r0)) (by rw [qdv,hlen]) (fun j x hx=>qel hx) (fun j B hB=>by
   obtain ⟨B0,g1,g3,g2⟩:=qnk (w:=w) hI hrr hp2 hve.drop j B hB;exact ⟨B0,g1,g3,fun b' hν hκ hR hb=>g2 j b' hν hκ hR hb⟩) (fun j c i f=>qit hp2) (fun m b i f j hm _ hN=>qi1 hnt hN)⟩
theorem qr1:∀ {K:List Nat},qmr K=K.map fun b=>(b,.dead)
 | []=>rfl
 | b::K=>by rw [qmr,qr1];rfl
theorem qub:∀ {tvs:List TV} {args:List AV} {vs:List Value},Fa w Γ args vs→∀ b∈frzB tvs args,Γ.A b
 | [],args,vs,hf,b,hb=>by cases args<;>simp [frzB] at hb
 | tv::l,[],vs,hf,b,hb=>by cases tv<;>simp [frzB] at hb
 | tv::l,x::xs,[],hf,b,hb=>hf.elim
 | tv::l,x::xs,v::vs,hf,b,hb=>by
  by_cases hh:∃ t b' s i n c,tv=.v t∧x=.sl b' s i n c
  ·obtain ⟨t,b',s,i,n,c,rfl,rfl⟩:=hh;simp only [frzB,List.mem_cons] at hb
   rcases hb with rfl | hb
   ·exact (qca.1 hf.1).1
   ·exact qub hf.2 b hb
  ·have e:frzB (tv::l) (x::xs)=frzB l xs:=by
    cases tv<;>cases x<;>first | rfl | (exact absurd ⟨_,_,_,_,_,_,rfl,rfl⟩ hh)
   rw [e] at hb;exact qub hf.2 b hb
theorem qp3 {tv:TV} {l:List TV} {x:AV} {xs:List AV} (hh:¬ ∃ t b' s i n c,tv=.v t∧x=.sl b' s i n c):frzA H (tv::l) (x::xs)=match frzA H l xs with
  | some (q,ys)=>some (q,x::ys)
  | none=>none:=by
 cases tv<;>cases x<;>first | rfl | (exact absurd ⟨_,_,_,_,_,_,rfl,rfl⟩ hh)
theorem qj9 (em:BlkOk Γ H w) {Γz:Cx} (hI:∀ n,Jf Γ H n↔Γz.I n) (hA:∀ b,Γ.A b→Γz.A b∧Γz.ν b=Γ.ν b∧Γz.κ b=Γ.κ b):∀ {tvs:List TV} {args ys:List AV} {vs:List Value} {p:List Prop},frzA H tvs args=some (p,ys)→allP p→Fa w Γ args vs→Fa w Γz ys vs
 | [],[],ys,vs,p,h,_,hf=>by
  simp only [frzA,waz,wa1] at h;obtain ⟨_,rfl⟩:=h
  cases vs with
  | nil=>exact trivial
  | cons=>exact hf.elim
 | [],_::_,ys,vs,p,h,_,_=>by simp [frzA] at h
 | tv::l,[],ys,vs,p,h,_,_=>by cases tv<;>simp [frzA] at h
 | tv::l,x::xs,ys,[],p,h,_,hf=>hf.elim
 | tv::l,x::xs,ys,v::vs,p,h,hp,hf=>by
  by_cases hh:∃ t b' s i n c,tv=.v t∧x=.sl b' s i n c
  ·obtain ⟨t,b',s,i,n,c,rfl,rfl⟩:=hh;simp only [frzA] at h;split at h
   ·rename_i p1 y q ys' h1 h2;cases h;obtain ⟨hp1,hp2⟩:=qag.1 hp;refine ⟨Ra_val.2 ?_,qj9 em hI hA h2 hp2 hf.2⟩;obtain ⟨cs,c1,c2⟩:=qfy em h1 hp1 hf.1;exact ⟨cs,RepC.mono (fun b hb=>(hI b).1 hb) (fun _ _=>rfl) _ _ _ c1,c2⟩
   ·cases h
  ·rw [qp3 hh] at h;split at h
   ·rename_i q ys' h2;cases h;exact ⟨Rp.mono (fun b hb=>(hI b).1 (.inl hb)) (fun _ _=>rfl) hA _ _ hf.1,qj9 em hI hA h2 hp hf.2⟩
   ·cases h
theorem SCon.effF_some {c:SCon} {base:Nat} {args:List AV} {e:Ef} (h:c.effF H base args=some e):∃ p ys e0,frzA (qc7 (frzB c.ins args) 0 (H.map qe4)) c.ins args=some (p,ys)∧c.eff (qar H (qmr (frzB c.ins args))) base ys=some e0 ∧
  e=⟨p++e0.ob,e0.v,qmr (frzB c.ins args)++e0.up,frzB c.ins args++e0.rd⟩:=by
 simp only [SCon.effF] at h;split at h
 ·rename_i p ys h1;split at h
  ·rename_i e0 h2;cases h;exact ⟨p,ys,e0,h1,h2,rfl⟩
  ·cases h
 ·cases h
theorem zcj {K:List Nat} {n:Nat}:Jf Γ (qc7 K 0 (H.map qe4)) n↔Jf Γ (qc7 K 0 H) n:=by
 have hl:∀ {b:Nat} {B:Blk},(qc7 K 0 (H.map qe4))[b]?=some (.live B)↔(qc7 K 0 H)[b]?=some (.live B):=fun {b B}=>by
  constructor
  ·intro h;obtain ⟨h1,h2⟩:=qbc h;rw [qc9,qdl.1 h1];simp [qh8.2 h2]
  ·intro h;obtain ⟨h1,h2⟩:=qbc h;rw [qc9,qdl.2 h1];simp [qh8.2 h2]
 refine or_congr Iff.rfl ⟨fun h=>h.sub fun b B h=>hl.1 h,fun h=>h.sub fun b B h=>hl.2 h⟩
theorem q5c {P:Program} {c:SCon} (hc:c.Ok P) {base:Nat} {args:List AV} {e:Ef} (he:c.effF H base args=some e) (hob:allP e.ob) (em:EmbH Γ H w) {vs:List Value} (hf:Fa w Γ args vs) :
  Calls P c.f vs.toArray w fun en w'=>∃ v Γ',en=.returned v∧Ext Γ H w Γ' (qar H e.up) w'∧EmbH Γ' (qar H e.up) w'∧Ra w' Γ' e.v v:=by
 obtain ⟨p,ys,e0,h1,h2,rfl⟩:=SCon.effF_some he;obtain ⟨hp,hq⟩:=qag.1 hob;generalize hK:frzB c.ins args=K at h1 h2 ⊢;have hKA:∀ b∈K,Γ.A b:=fun b hb=>qub hf b (by rw [hK];exact hb)
 obtain ⟨x1,em1⟩:=qmy (K:=K) (I:=Jf Γ (qc7 K 0 H)) em hKA (fun _ _=>rfl) (wad _) rfl rfl (fun _ h=>.inl h) (fun n hn=>.inl hn) (fun n hn=>by
  rcases hn with h | hw
  ·exact em.old n h
  ·obtain ⟨c,hc⟩:=q2g (hw.sub fun _ _ h=>(qbc h).1)
   exact em.own_lt hc)
 rw [← qr1] at x1 em1;have hfz:Fa w { Γ with I:=Jf Γ (qc7 K 0 H) } ys vs:=qj9 (Γz:={ Γ with I:=Jf Γ (qc7 K 0 H) }) (qr9 (K:=K) em.killAs.1).blkOk (fun n=>zcj) (fun b hb=>⟨hb,rfl,rfl⟩) h1 hp hf
 refine Calls.mono (qz3 hc h2 hq em1 hfz) fun en w' hen=>?_
 obtain ⟨v,Γ',rfl,g1,g2,g3⟩:=hen;simp only [qfu];exact ⟨v,Γ',rfl,x1.trans g1,g2,g3⟩
theorem SCon.effC_some {c:SCon} {base:Nat} {args:List AV} {e:Ef} (h:c.effC H base args=some e):∃ t s t' b s' i n cc p y q r,c.ins=[.v t]∧c.ibl=[]∧c.outs=[.slf 0 s]∧c.obl=[.arr t' true]∧args=[.sl b s' i n cc]∧flat t'=true∧qay H base=true∧rvV H t (.sl b s' i n cc)=some (p,y) ∧
  c.pre [.val t y]=some q∧c.F [.val t y]=some r∧e=⟨p++q,resS (stV [base] c.outs c.obl (qba _ r)),zipH [base] (stB [base] c.outs c.obl (qba _ r)),qbj 0 H⟩:=by
 unfold SCon.effC at h;split at h
 ·rename_i t s t' b s' i n cc h1 h2 h3 h4;split at h
  ·rename_i h5 h6;split at h
   ·rename_i p y h7;split at h
    ·rename_i q r h8 h9;cases h;exact ⟨t,s,t',b,s',i,n,cc,p,y,q,r,h1,h2,h3,h4,rfl,h5,h6,h7,h8,h9,rfl⟩
    ·cases h
   ·cases h
  ·cases h
 ·cases h
theorem q5s {P:Program} {c:SCon} (hc:c.Ok P) {base:Nat} {args:List AV} {e:Ef} (he:c.effC H base args=some e) (hob:allP e.ob) (em:EmbH Γ H w) {vs:List Value} (hf:Fa w Γ args vs) :
  Calls P c.f vs.toArray w fun en w'=>∃ v Γ',en=.returned v∧Ext Γ H w Γ' (qar H e.up) w'∧EmbH Γ' (qar H e.up) w'∧Ra w' Γ' e.v v:=by
 obtain ⟨t,s,t',b,s',i,n,cc,p,y,q,r,h1,h2,h3,h4,rfl,hfl,hfr,hrv,hpre,hF,rfl⟩:=SCon.effC_some he;obtain ⟨f,ins,ibl,outs,obl,pre,F⟩:=c;simp only at h1 h2 h3 h4 hpre hF hob;subst h1;subst h2;subst h3;subst h4;obtain ⟨hp,hq⟩:=qag.1 hob;obtain ⟨v,rfl,hv⟩:=qe1 hf;have hy:Ra w (Γ.freeze H) (.val t y) v:=Ra_val.2 (qfy em.blkOk hrv hp hv);have hk:=qbp hfr;refine Calls.mono (hc.2 (Γ.freeze H) w [.val t y] q r [v] (qhv em) ⟨⟨y,rfl⟩,trivial⟩ hpre hF hq ⟨hy,trivial⟩) fun en w' hen=>?_
 obtain ⟨v',Γ1,rfl,hx,em1,hr⟩:=hen;have hfrz:∀ n,n<w.heap.size→w'.heap[n]?=w.heap[n]?:=fun n hn=>hx.fr n hn ql0
 obtain ⟨xs,u⟩:=r;have e1:stB (qa3 0 1) [TV.slf 0 s] [TB.arr t' true] (qba (List.flatMap TV.ts [TV.slf 0 s]++tsB [TB.arr t' true]) (xs,u))=[.live (.arr t' xs true)]:=congrArg (fun l=>[Hs.live (Blk.arr t' l true)]) (qbk (t:=t') (ys:=xs))
 have e2:stB [base] [TV.slf 0 s] [TB.arr t' true] (qba (List.flatMap TV.ts [TV.slf 0 s]++tsB [TB.arr t' true]) (xs,u))=[.live (.arr t' xs true)]:=congrArg (fun l=>[Hs.live (Blk.arr t' l true)]) (qbk (t:=t') (ys:=xs))
 have e3:resS (stV (qa3 0 1) [TV.slf 0 s] [TB.arr t' true] (qba (List.flatMap TV.ts [TV.slf 0 s]++tsB [TB.arr t' true]) (xs,u)))=.sl 0 s 0 (List.length (α:=Den t') xs) none:=congrArg (fun l=>AV.sl 0 s 0 (List.length (α:=Den t') l) none) (qbk (t:=t') (ys:=xs))
 have e4:resS (stV [base] [TV.slf 0 s] [TB.arr t' true] (qba (List.flatMap TV.ts [TV.slf 0 s]++tsB [TB.arr t' true]) (xs,u)))=.sl base s 0 (List.length (α:=Den t') xs) none:=congrArg (fun l=>AV.sl base s 0 (List.length (α:=Den t') l) none) (qbk (t:=t') (ys:=xs))
 have hx':Ext (Γ.freeze H) [] w Γ1 [.live (.arr t' xs true)] w':=by rw [← e1];exact hx
 have em1':EmbH Γ1 [.live (.arr t' xs true)] w':=by rw [← e1];exact em1
 have hr':Ra w' Γ1 (.sl 0 s 0 (List.length (α:=Den t') xs) none) v':=by rw [← e3];exact hr
 have hL:Live [.live (.arr t' xs true)] 0:=⟨_,rfl⟩;have hB:=em1'.blk 0 _ rfl;have hB':RepB w' (Γ.new base (Γ1.ν 0) (Γ1.κ 0)) base (.arr t' xs true):=by
  simp only [RepB,Cx.new,qas] at hB ⊢;obtain ⟨b1,b2,b3⟩:=hB;refine ⟨b1,b2,fun hk=>?_⟩
  obtain ⟨c,el,g1,g2,g3⟩:=b3 hk;refine ⟨c,el,g1,g2,fun i x hx=>?_⟩
  obtain ⟨cs,m1,m2⟩:=g3 i x hx;exact ⟨cs,ql8 hfl m1,m2⟩
 obtain ⟨g1,g2⟩:=em.fresh (w':=w') (N:=Γ1.ν 0) (C:=Γ1.κ 0) hk (fun h0=>⟨by
  rcases hx'.wr (Γ1.ν 0) (.inl ⟨0,hL,h0,rfl⟩) with h | h
  ·exact absurd h ql0
  ·exact h,em1'.lt hL h0⟩) hfrz hx.size hx.os hx.out hB' (by intro _ _ _ h;cases h)
 have hup:qar H (zipH [base] (stB [base] [TV.slf 0 s] [TB.arr t' true] (qba (List.flatMap TV.ts [TV.slf 0 s]++tsB [TB.arr t' true]) (xs,u))))=H.set base (.live (.arr t' xs true)):=by rw [e2];rfl
 refine ⟨v',Γ.new base (Γ1.ν 0) (Γ1.κ 0),rfl,?_,?_,?_⟩
 ·show Ext Γ H w _ (qar H (zipH [base] (stB [base] [TV.slf 0 s] [TB.arr t' true] (qba (List.flatMap TV.ts [TV.slf 0 s]++tsB [TB.arr t' true]) (xs,u))))) w';rw [hup];exact g2
 ·show EmbH _ (qar H (zipH [base] (stB [base] [TV.slf 0 s] [TB.arr t' true] (qba (List.flatMap TV.ts [TV.slf 0 s]++tsB [TB.arr t' true]) (xs,u))))) w';rw [hup];exact g1
 ·show Ra w' _ (resS (stV [base] [TV.slf 0 s] [TB.arr t' true] (qba (List.flatMap TV.ts [TV.slf 0 s]++tsB [TB.arr t' true]) (xs,u)))) v';rw [e4];obtain ⟨_,ad,cap,k1,k2,k3,k4⟩:=qca.1 hr';exact qca.2 ⟨.inr rfl,ad,cap,k1,by simpa [Cx.new,upd] using k2,by simpa [Cx.new,upd] using k3,k4⟩
theorem qy9 {P:Program} {c:SCon} (hc:c.Ok P) {base:Nat} {args:List AV} {e:Ef} (he:c.effCF H base args=some e) (hob:allP e.ob) (em:EmbH Γ H w) {vs:List Value} (hf:Fa w Γ args vs) :
  Calls P c.f vs.toArray w fun en w'=>∃ v Γ',en=.returned v∧Ext Γ H w Γ' (qar H e.up) w'∧EmbH Γ' (qar H e.up) w'∧Ra w' Γ' e.v v:=by
 unfold SCon.effCF at he;split at he
 ·exact q5s hc he hob em hf
 ·exact q5c hc he hob em hf
theorem qer {j b:Nat}:∀ {l r:List (Nat×Nat)},qjw j l=some b→qjw j (l++r)=some b
 | [],r,h=>by simp [qjw] at h
 | p::l,r,h=>by
  simp only [wbc,qjw] at h ⊢;split
  ·rename_i hh;rw [if_pos hh] at h;exact h
  ·rename_i hh;rw [if_neg hh] at h;exact qer h
theorem qet:∀ {bl:List TB} {j:Nat} {acc:List (Nat×Nat)},∃ t,qdd H j bl acc=acc++t
 | [],j,acc=>⟨[],by simp [qdd]⟩
 | tb::bl,j,acc=>by
  cases tb with
  | cells l =>
   simp only [qdd];split
   ·split
    ·rename_i vs _;obtain ⟨t,ht⟩:=qet (bl:=bl) (j:=j+1) (acc:=acc++qfi l vs);exact ⟨qfi l vs++t,by rw [ht,war]⟩
    ·exact ⟨[],by simp⟩
   ·exact ⟨[],by simp⟩
  | mix l t =>
   simp only [qdd];split
   ·split
    ·rename_i vs _ _ _;obtain ⟨t,ht⟩:=qet (bl:=bl) (j:=j+1) (acc:=acc++qfi l vs);exact ⟨qfi l vs++t,by rw [ht,war]⟩
    ·exact ⟨[],by simp⟩
   ·exact ⟨[],by simp⟩
  | view k =>
   simp only [qdd];split
   ·split
    ·rename_i c _ _ _;obtain ⟨t,ht⟩:=qet (bl:=bl) (j:=j+1) (acc:=acc++[(k,c)]);exact ⟨[(k,c)]++t,by rw [ht,war]⟩
    ·exact ⟨[],by simp⟩
   ·exact ⟨[],by simp⟩
  | _=>simp only [qdd];exact qet
theorem qey:∀ {bl:List TB} {j:Nat} {acc:List (Nat×Nat)},(∀ i b,j≤i→i<j+bl.length→qjw i (qdd H j bl acc)=some b→H'[b]?=H[b]?)→qdd H' j bl acc=qdd H j bl acc
 | [],j,acc,_=>by simp only [qdd]
 | tb::bl,j,acc,h=>by
  cases tb with
  | cells l =>
   simp only [qdd] at h ⊢
   cases hl:qjw j acc with
   | none=>rfl
   | some b =>
    have hb:H'[b]?=H[b]?:=by
     refine h j b (wad _) (by simp) ?_
     rw [hl];simp only;split
     ·rename_i vs _;obtain ⟨t,ht⟩:=qet (H:=H) (bl:=bl) (j:=j+1) (acc:=acc++qfi l vs);rw [ht];exact qer (qer hl)
     ·exact hl
    simp only [hl] at h;simp only [qax hb];split
    ·rename_i vs hvs;rw [hvs] at h;exact qey fun i b h1 h2 h3=>h i b (by omega) (by simp only [wa5];omega) h3
    ·rfl
  | mix l t =>
   simp only [qdd] at h ⊢
   cases hl:qjw j acc with
   | none=>rfl
   | some b =>
    have hb:H'[b]?=H[b]?:=by
     refine h j b (wad _) (by simp) ?_
     rw [hl];simp only;split
     ·rename_i vs _ _ _;obtain ⟨t,ht⟩:=qet (H:=H) (bl:=bl) (j:=j+1) (acc:=acc++qfi l vs);rw [ht];exact qer (qer hl)
     ·exact hl
    simp only [hl] at h;simp only [qax hb];split
    ·rename_i vs _ _ hvs;rw [hvs] at h;exact qey fun i b h1 h2 h3=>h i b (by omega) (by simp only [wa5];omega) h3
    ·rfl
  | view k =>
   simp only [qdd] at h ⊢
   cases hl:qjw j acc with
   | none=>rfl
   | some b =>
    have hb:H'[b]?=H[b]?:=by
     refine h j b (wad _) (by simp) ?_
     rw [hl];simp only;split
     ·rename_i c _ _ _;obtain ⟨t,ht⟩:=qet (H:=H) (bl:=bl) (j:=j+1) (acc:=acc++[(k,c)]);rw [ht];exact qer (qer hl)
     ·exact hl
    simp only [hl] at h;simp only [hb];split
    ·rename_i c i f hvs;rw [hvs] at h;exact qey fun i b h1 h2 h3=>h i b (by omega) (by simp only [wa5];omega) h3
    ·rfl
  | _ =>
   simp only [qdd] at h ⊢;exact qey fun i b h1 h2 h3=>h i b (by omega) (by simp only [wa5];omega) h3
theorem qwf:∀ {bl:List TB} {acc:List (Nat×Nat)} {j i:Nat},i<bl.length→(rhoL acc j bl)[i]?=some (qjw (j+i) acc)
 | [],acc,j,i,h=>by simp at h
 | tb::bl,acc,j,0,h=>by simp [rhoL]
 | tb::bl,acc,j,i+1,h=>by
  simp only [rhoL,wa4];rw [qwf (by simpa using h)]
  congr 2;omega
section
variable {ρ:List (Option Nat)} {lens:List Nat}
theorem qem (h:∀ (j b:Nat),ρ[j]?=some (some b)→H'[b]?=H[b]?):∀ {tv:TV} {x:AV},qb4 ρ H' lens tv x=qb4 ρ H lens tv x
 | .u,x=>by simp only [qb4]
 | .v t,x=>by cases t<;>simp only [qb4]
 | .sl j s i,x=>by
  cases x<;>simp only [qb4]
  rename_i b s' i' len c;split
  ·rename_i hh
   cases c with
   | none=>rfl
   | some c=>simp only [qax (h _ _ (qd4 hh.1))]
  ·rfl
 | .slf j s,x=>by
  cases x<;>simp only [qb4]
  rename_i b s' i' len c;split
  ·rename_i hh
   cases c with
   | none=>rfl
   | some c=>simp only [qax (h _ _ (qd4 hh.1))]
  ·rfl
 | .ref j s i o,x=>by cases x<;>simp only [qb4]
 | .mref j,x=>by cases x<;>simp only [qb4]
 | .fn f c,x=>by
  cases x<;>simp only [qb4]
  rw [qem h]
 | .nil,x=>by cases x<;>simp only [qb4]
 | .cons a l,x=>by
  cases x<;>simp only [qb4]
  rw [qem h,qem h]
 | .opt tv,x=>by
  have ih:=fun x=>qem h (tv:=tv) (x:=x)
  cases x<;>simp only [qb4,ih]
theorem qgc (h:∀ (j b:Nat),ρ[j]?=some (some b)→H'[b]?=H[b]?):∀ {l:List TV} {xs:List AV},qfj ρ H' lens l xs=qfj ρ H lens l xs
 | [],[]=>by simp only [qfj]
 | tv::l,x::xs=>by simp only [qfj];rw [qem h,qgc h]
 | [],_::_=>by simp only [qfj]
 | _::_,[]=>by simp only [qfj]
theorem quh (h:∀ (j b:Nat),ρ[j]?=some (some b)→H'[b]?=H[b]?) {o:Option Nat} (ho:∀ b,o=some b→H'[b]?=H[b]?) {tb:TB}:qb9 ρ H' lens o tb=qb9 ρ H lens o tb:=by
 cases o with
 | none=>cases tb<;>simp only [qb9]
 | some b =>
  cases tb<;>simp only [qb9,qax (ho b rfl)]
  ·split
   ·exact qgc h
   ·rfl
  ·rename_i j;rw [ho b rfl];split
   ·rename_i c i hc
    cases ha:isAt ρ j c with
    | false=>rfl
    | true=>simp only [qax (h _ _ (qd4 ha))]
   ·rfl
  ·simp only [qgc h]
theorem qlx (h:∀ (j b:Nat),ρ[j]?=some (some b)→H'[b]?=H[b]?):∀ {bs:List (Option Nat)} {bl:List TB},(∀ (j:Nat) (b:Nat),bs[j]?=some (some b)→H'[b]?=H[b]?)→qcc ρ H' lens bs bl=qcc ρ H lens bs bl
 | [],[],_=>by simp only [qcc]
 | o::bs,tb::bl,hb=>by
  simp only [qcc];rw [quh h (fun b e=>hb 0 b (by simp [e])),qlx h fun j b hj=>hb (j+1) b (by simpa using hj)]
 | [],_::_,_=>by simp only [qcc]
 | _::_,[],_=>by simp only [qcc]
theorem qmz:∀ {bs:List (Option Nat)} {bl:List TB},(∀ (j:Nat) (b:Nat),bs[j]?=some (some b)→H'[b]?=H[b]?)→qe3 H' bs bl=qe3 H bs bl
 | [],[],_=>by simp only [qe3]
 | o::bs,tb::bl,hb=>by
  simp only [qe3];rw [qmz fun j b hj=>hb (j+1) b (by simpa using hj)]
  congr 1
  cases o with
  | none=>cases tb<;>rfl
  | some b =>
   cases tb<;>try rfl
   ·simp only [qax (hb 0 b rfl)]
   ·simp only [qax (hb 0 b rfl)]
 | [],_::_,_=>by simp only [qe3]
 | _::_,[],_=>by simp only [qe3]
end
theorem qmu {b:Nat}:∀ {ρ:List (Option Nat)} {j:Nat},ρ[j]?=some (some b)→b∈qmw ρ
 | [],j,h=>by simp at h
 | o::ρ,0,h=>by simp at h;subst h;simp [qmw]
 | o::ρ,j+1,h=>by
  have:=qmu (ρ:=ρ) (j:=j) (by simpa using h)
  cases o<;>simp [qmw,this]
theorem qmx {acc:List (Nat×Nat)} {tvs:List TV} {bl:List TB} {xs:List AV} (h:∀ b∈qmw (rhoL (qdd H 0 bl acc) 0 bl),H'[b]?=H[b]?):qib acc H' tvs bl xs=qib acc H tvs bl xs:=by
 have e1:qdd H' 0 bl acc=qdd H 0 bl acc:=qey fun i b _ hi hl=>by
  refine h b (qmu (j:=i) ?_);rw [qwf (by omega),wa7,hl]
 have h':∀ (j b:Nat),(rhoL (qdd H 0 bl acc) 0 bl)[j]?=some (some b)→H'[b]?=H[b]?:=fun j b hj=>h b (qmu hj)
 simp only [qib,e1];rw [qmz h',qgc h',qlx h' h']
theorem qhk:∀ {ρ:List (Option Nat)} {nm:List Nat},(∀ n∈nm,H'[n]?=H[n]?)→nmOk H' ρ nm=nmOk H ρ nm
 | [],[],_=>by simp only [nmOk]
 | none::ρ,n::nm,h=>by
  simp only [nmOk];rw [qa4 (h n (by simp)),qhk fun m hm=>h m (by simp [hm])]
 | some b::ρ,n::nm,h=>by
  have h1:qu5 H' n=qu5 H n:=by unfold qu5;rw [h n (by simp)]
  simp only [nmOk,h1];rw [qhk fun m hm=>h m (by simp [hm])]
 | [],_::_,_=>by simp only [nmOk]
 | none::_,[],_=>by simp only [nmOk]
 | some _::_,[],_=>by simp only [nmOk]
theorem qmj {n:Nat}:∀ {nm:List Nat} {hs:List Hs},nm.length=hs.length→n∈nm→∃ h,(n,h)∈zipH nm hs
 | x::nm,h::hs,hl,hn=>by
  rcases List.mem_cons.1 hn with rfl | hn
  ·exact ⟨h,by simp [zipH]⟩
  ·obtain ⟨h',hh⟩:=qmj (hs:=hs) (by simpa using hl) hn
   exact ⟨h',by simp [zipH,hh]⟩
 | x::nm,[],hl,_=>by simp at hl
 | [],_,_,hn=>by cases hn
theorem SCon.eff0_frame {c:SCon} {base:Nat} {args:List AV} {e:Ef} (h:c.eff0 H base args=some e) (ha:qec H H' e):c.eff0 H' base args=some e:=by
 have h0:=h;obtain ⟨ρ,p,env,q,r,nm,hr,h1,h2,hnm0,hnm,hnd,hlen,hp1,hp2,rfl⟩:=SCon.eff0_some h;have hρ:ρ=rhoL (qdd H 0 c.ibl (qfi c.ins args)) 0 c.ibl:=by
  obtain ⟨_,_,_,_,h,_⟩:=qkd hr;exact h
 have key:qib (qfi c.ins args) H' c.ins c.ibl args=qib (qfi c.ins args) H c.ins c.ibl args:=qmx fun b hb=>ha.1 b (by rw [hρ];exact hb)
 have hn:∀ n∈nm,H'[n]?=H[n]?:=fun n hn=>by
  obtain ⟨x,hx⟩:=qmj (hs:=stB nm c.outs c.obl (qba _ r)) (by rw [qdv,hlen]) hn
  exact ha.2 _ hx
 unfold SCon.eff0 at h0 ⊢;rw [key,hr] at *;simp only [h1,h2] at h0 ⊢;rw [← hnm0] at h0 ⊢;rw [qhk hn];exact h0
theorem SCon.eff_frame {c:SCon} {base:Nat} {args:List AV} {e:Ef} (h:c.eff H base args=some e) (ha:qec H H' e):c.eff H' base args=some e:=by
 unfold SCon.eff at h ⊢
 cases hn:qgm c.obl with
 | false=>rw [hn] at h;exact SCon.eff0_frame h ha
 | true =>
  rw [hn] at h
  cases h0:c.eff0 (H.map qe4) base args with
  | none=>rw [h0] at h;cases h
  | some e0 =>
   rw [h0] at h;cases h;rw [q1u ha.1];simp only [h0]
theorem SCon.effM_frame {c:SCon} {m:Bool} {base:Nat} {args:List AV} {e:Ef} (h:c.effM m H base args=some e) (ha:qec H H' e):c.effM m H' base args=some e:=by
 have h0:=h;obtain ⟨hnt,ρ,p,env,q,r,q0,r0,nm,hr,h1,h2,h3,hnm0,hnm,hnd,hlen,hp1,hp2,rfl⟩:=SCon.effM_some h;have hρ:ρ=rhoL (qdd H 0 c.ibl (qfi c.ins args)) 0 c.ibl:=by
  obtain ⟨_,_,_,_,h,_⟩:=qkd hr;exact h
 have key:qib (qfi c.ins args) H' c.ins c.ibl args=qib (qfi c.ins args) H c.ins c.ibl args:=qmx fun b hb=>ha.1 b (by rw [hρ];exact hb)
 have hn:∀ n∈nm,H'[n]?=H[n]?:=fun n hn=>by
  obtain ⟨x,hx⟩:=qmj (hs:=stB nm c.outs c.obl (qba _ (qom m _ r r0))) (by rw [qdv,hlen]) hn
  exact ha.2 _ hx
 unfold SCon.effM at h0 ⊢;rw [hnt] at h0 ⊢;simp only at h0 ⊢;rw [key,hr] at *;simp only [h1,h2,h3] at h0 ⊢;rw [← hnm0] at h0 ⊢;rw [qhk hn];exact h0
theorem Lives.rvV_mask {K:List Nat} (h:∀ b∈K,H'[b]?=H[b]?):Lives (qc7 K 0 (H.map qe4)) (qc7 K 0 (H'.map qe4)):=by
 refine ⟨fun b B hB=>?_,fun m b i f hm=>absurd (qk1 hm) qka⟩
 obtain ⟨g1,g2⟩:=qbc (qaw hB);have g3:=h b g2;have g4:=qdl.1 g1;rw [← g3] at g4;simp only [hget];rw [qc9,qdl.2 g4];simp [qh8.2 g2]
theorem qm5 (h:Lives H H'):∀ {tvs:List TV} {args:List AV} {r:List Prop×List AV},frzA H tvs args=some r→frzA H' tvs args=some r
 | [],[],r,h1=>by simpa only [frzA] using h1
 | [],_::_,r,h1=>by simp [frzA] at h1
 | tv::l,[],r,h1=>by cases tv<;>simp [frzA] at h1
 | tv::l,x::xs,r,h1=>by
  by_cases hh:∃ t b' s i n c,tv=.v t∧x=.sl b' s i n c
  ·obtain ⟨t,b',s,i,n,c,rfl,rfl⟩:=hh;simp only [frzA] at h1 ⊢;split at h1
   ·rename_i p1 y q ys' k1 k2;have k1':rvV H' t (.sl b' s i n c)=some (p1,y):=by
     unfold rvV at k1 ⊢;split at k1
     ·rename_i ha;rw [if_pos ha];exact k1
     ·rename_i ha;rw [if_neg ha];exact qfg h _ _ _ k1
    rw [k1',qm5 h k2];exact h1
   ·cases h1
  ·rw [qp3 hh] at h1 ⊢;split at h1
   ·rename_i q ys' k2;rw [qm5 h k2];exact h1
   ·cases h1
theorem SCon.effF_frame {c:SCon} {base:Nat} {args:List AV} {e:Ef} (h:c.effF H base args=some e) (ha:qec H H' e):c.effF H' base args=some e:=by
 obtain ⟨p,ys,e0,h1,h2,rfl⟩:=SCon.effF_some h;have hK:∀ b∈frzB c.ins args,H'[b]?=H[b]?:=fun b hb=>ha.1 b (wbg _ hb)
 have hput:∀ b,H'[b]?=H[b]?→(qar H' (qmr (frzB c.ins args)))[b]?=(qar H (qmr (frzB c.ins args)))[b]?:=fun b hb=>by
  have hl:b<H'.length↔b<H.length:=by
   rcases Nat.lt_or_ge b H.length with h | h
   ·rw [wab h] at hb;exact ⟨fun _=>h,fun _=>(List.getElem?_eq_some_iff.1 hb).1⟩
   ·rw [wac h] at hb;have:=List.getElem?_eq_none_iff.1 hb;omega
  rw [qr1,qh6,qh6,hb];simp only [hl]
 have ha0:qec (qar H (qmr (frzB c.ins args))) (qar H' (qmr (frzB c.ins args))) e0:=⟨fun b hb=>hput b (ha.1 b (wbh _ hb)),fun q hq=>hput q.1 (ha.2 q (wbh _ hq))⟩
 have k1:=qm5 (Lives.rvV_mask hK) h1;have k2:=SCon.eff_frame h2 ha0;simp only [SCon.effF,k1,k2]
theorem SCon.effC_frame {c:SCon} {base:Nat} {args:List AV} {e:Ef} (h:c.effC H base args=some e) (ha:qec H H' e):∃ e',c.effC H' base args=some e'∧Ef.sim e e':=by
 obtain ⟨t,s,t',b,s',i,n,cc,p,y,q,r,h1,h2,h3,h4,rfl,hfl,hfr,hrv,hpre,hF,rfl⟩:=SCon.effC_some h;have hl:Lives H H':=qjl rfl ha.1;have hr':rvV H' t (.sl b s' i n cc)=some (p,y):=by
  unfold rvV at hrv ⊢;split at hrv
  ·rename_i ha;rw [if_pos ha];exact hrv
  ·rename_i ha;rw [if_neg ha];exact qfg hl _ _ _ hrv
 have hb:qay H' base=qay H base:=by
  obtain ⟨x,hx⟩:=qmj (nm:=[base]) (hs:=stB [base] c.outs c.obl (qba _ r)) (by rw [qdv,h4];rfl) (way ..)
  exact qa4 (ha.2 _ hx)
 obtain ⟨f,ins,ibl,outs,obl,pre,F⟩:=c;simp only at h1 h2 h3 h4 hpre hF;subst h1;subst h2;subst h3;subst h4;unfold SCon.effC;simp only [hfl,hb,hfr,hr',hpre,hF];exact ⟨_,rfl,rfl,rfl,rfl⟩
theorem SCon.effCF_frame {c:SCon} {base:Nat} {args:List AV} {e:Ef} (h:c.effCF H base args=some e) (ha:qec H H' e):∃ e',c.effCF H' base args=some e'∧Ef.sim e e':=by
 unfold SCon.effCF at h ⊢;split at h
 ·rename_i hc;exact SCon.effC_frame h ha
 ·rename_i hc;exact ⟨e,SCon.effF_frame h ha,Ef.sim.refl _⟩
theorem q2z {args:List AV} {m:Bool} {l:List AV} (h:qpg args=some (m,l)):args=mark m::l:=by
 unfold qpg at h;split at h
 ·cases h;rfl
 ·cases h
theorem zbm {w:World} {Γ:Cx} {m:Bool} {l:List AV} {vs:List Value} (h:Fa w Γ (mark m::l) vs):False:=by
 cases vs with
 | nil=>exact h.elim
 | cons v vs =>
  have h:=h.1;simp only [mark,Ra,Rp,wa0] at h;obtain ⟨_,us,⟨_,h1⟩,_,_,us',h2,_⟩:=h;rw [← h1] at h2;cases h2
theorem qwb {P:Program} {cs:List Con} (hc:∀ c∈cs,c.Ok P):∀ {ss:List SCon},(∀ c∈ss,c.Ok P)→∀ (f:FuncId) (H:List Hs) (base:Nat) (args:List AV),allP (spS ss cs f H base args).ob→qbr P f=true ∧
  ∀ (Γ:Cx) (w:World) (vs:List Value),EmbH Γ H w→Fa w Γ args vs →
   Calls P f vs.toArray w fun en w'=>∃ v Γ',en=.returned v∧Ext Γ H w Γ' (qar H (spS ss cs f H base args).up) w'∧EmbH Γ' (qar H (spS ss cs f H base args).up) w'∧Ra w' Γ' (spS ss cs f H base args).v v
 | [],_=>(q29 hc).ok
 | c::ss,h=>fun f H base args hob=>by
  simp only [spS] at hob ⊢;split at hob
  ·rename_i hh;have hcf:c.f=f:=by
    simp only [wa3] at hh;exact wai hh.1
   subst hcf;have hc:=h c (way ..)
   cases hm:qpg args with
   | some x =>
    obtain ⟨m,l⟩:=x;refine ⟨hc.1,fun Γ w vs em hf=>?_⟩
    rw [q2z hm] at hf;exact (zbm hf).elim
   | none =>
    rw [hm] at hob;simp only at hob ⊢
    cases he:c.eff H base args with
    | none=>rw [he] at hob;exact qaa hob
    | some e =>
     rw [he] at hob;exact ⟨hc.1,fun Γ w vs em hf=>qz3 hc he hob em hf⟩
  ·rename_i hh;split at hob
   ·rename_i hk;have hcf:c.f=f:=by
     simp only [wa3] at hk;exact wai hk.1
    subst hcf;have hc:=h c (way ..)
    cases he:c.effCF H base args with
    | none=>rw [he] at hob;exact qaa hob
    | some e =>
     rw [he] at hob;exact ⟨hc.1,fun Γ w vs em hf=>qy9 hc he hob em hf⟩
   ·exact qwb hc (fun c hc=>h c (wam _ hc)) f H base args hob
theorem qv0 {P:Program} {cs:List Con} (hc:∀ c∈cs,c.Ok P):∀ {ss:List SCon},(∀ c∈ss,c.Ok P)→∀ (f:FuncId) (H:List Hs) (base:Nat) (m:Bool) (args:List AV),allP (spS ss cs f H base (mark m::args)).ob →
  (m=true→qbr P f=true∧∀ (Γ:Cx) (w:World) (vs:List Value),EmbH Γ H w→Fa w Γ args vs →
   Calls P f vs.toArray w fun en w'=>∃ v Γ',en=.returned v∧Ext Γ H w Γ' (qar H (spS ss cs f H base (mark m::args)).up) w'∧EmbH Γ' (qar H (spS ss cs f H base (mark m::args)).up) w'∧Ra w' Γ' (spS ss cs f H base (mark m::args)).v v) ∧
  (m=false→∀ (Γ:Cx) (w:World),EmbH Γ H w→∃ Γ',Ext Γ H w Γ' (qar H (spS ss cs f H base (mark m::args)).up) w∧EmbH Γ' (qar H (spS ss cs f H base (mark m::args)).up) w)
 | [],_=>(q29 hc).mrk
 | c::ss,h=>fun f H base m args hob=>by
  simp only [spS] at hob ⊢;split at hob
  ·rename_i hh;have hcf:c.f=f:=by
    simp only [wa3] at hh;exact wai hh.1
   subst hcf;have hc:=h c (way ..);simp only [mark,qpg] at hob ⊢
   cases he:c.effM m H base args with
   | none=>rw [he] at hob;exact qaa hob
   | some e =>
    rw [he] at hob;obtain ⟨g1,g2⟩:=q52 hc he hob;exact ⟨fun hm=>⟨hc.1,g1 hm⟩,g2⟩
  ·rename_i hh;simp only [mark,qxk,Bool.false_and,Bool.and_false] at hob ⊢;exact qv0 hc (fun c hc=>h c (wam _ hc)) f H base m args hob
theorem qzq {P:Program} {cs:List Con} (hc:∀ c∈cs,c.Ok P) {ss:List SCon} (h:∀ c∈ss,c.Ok P):SpecOk P (spS ss cs) :=
 ⟨qwb hc h,qv0 hc h⟩
theorem qkm {cs:List Con}:∀ {ss:List SCon},qcu (spS ss cs)
 | []=>qn0
 | c::ss=>fun f H H' base args hob ha=>by
  simp only [spS] at hob ha ⊢;split at hob
  ·rename_i hh;rw [hh] at ha;simp only at ha
   cases hm:qpg args with
   | some x =>
    obtain ⟨m,l⟩:=x;rw [hm] at hob ha;simp only at hob ha ⊢
    cases he:c.effM m H base l with
    | none=>rw [he] at hob;exact qaa hob
    | some e =>
     rw [he] at hob ha;simp only at ha ⊢;rw [SCon.effM_frame he ha];exact Ef.sim.refl _
   | none =>
    rw [hm] at hob ha;simp only at hob ha ⊢
    cases he:c.eff H base args with
    | none=>rw [he] at hob;exact qaa hob
    | some e =>
     rw [he] at hob ha;simp only at ha ⊢;rw [SCon.eff_frame he ha];exact Ef.sim.refl _
  ·rename_i hh;rw [hh] at ha;simp only at ha;split at hob
   ·rename_i hk;rw [hk] at ha;simp only at ha
    cases he:c.effCF H base args with
    | none=>rw [he] at hob;exact qaa hob
    | some e =>
     rw [he] at hob ha;simp only at ha ⊢;obtain ⟨e',h1,h2⟩:=SCon.effCF_frame he ha;rw [h1];exact h2
   ·rename_i hk;rw [hk] at ha;exact qkm f H H' base args hob ha
end
def rawR (T:List AV):List RS→List AV
 | []=>[]
 | .tmp n::l=>T.getD n .undef::rawR T l
 | .cell _ _::l=>.undef::rawR T l
def q6p:AV→Bool
 | .opt ..=>true
 | .gd _ v=>q6p v
 | _=>false
def frzT (S:St):TV→RS→Option Ty
 | .v t,_=>some t
 | .opt x,.tmp n=>match x with
  | .v t=>match q6p (S.T.getD n .undef) with
   | true=>none
   | false=>some t
  | _=>none
 | _,_=>none
def frzR (S:St):List TV→List RS→Option (List Prop×List AV)
 | [],[]=>some ([],[])
 | tv::tvs,s::l=>match frzT S tv s with
  | some t=>match qnl S t s,frzR S tvs l with
   | some (p,y),some (q,r)=>some (p++q,.val t y::r)
   | _,_=>none
  | none=>match s,frzR S tvs l with
   | .tmp n,some (q,r)=>some (q,S.T.getD n .undef::r)
   | _,_=>none
 | _,_=>none
def qxr (ρ:List (Option Nat)):List Nat→List Nat
 | []=>[]
 | x::l=>match memO x ρ with
  | true=>qxr ρ l
  | false=>x::qxr ρ l
def q5d:List Nat→List (Nat×Hs)
 | []=>[]
 | b::l=>(b,.dead)::q5d l
def ze8 (S:St) (n:Nat) (outs:List TV) (obl:List TB) (slots:List RS):Option (List Prop×Dens (outs.flatMap TV.ts++tsB obl)) :=
 match qu7 0 n++qfi outs (rawR S.T slots) with
 | acc=>match qxr (qfs obl (rhoL (qdd S.H 0 obl acc) 0 obl)) (qbj 0 S.H) with
  | K=>match frzR ⟨S.T,qc7 K 0 S.H⟩ outs slots with
   | some (p,xs)=>match qib acc (qar S.H (q5d K)) outs obl xs with
    | some (ρ,q,env)=>match idOk 0 n ρ,qm6 (outs.flatMap TV.ts++tsB obl) env with
     | true,some r=>some (p++q,r)
     | _,_=>none
    | none=>none
   | none=>none
noncomputable def finS (n:Nat) (outs:List TV) (obl:List TB) (slots:List RS):KT (Dens (outs.flatMap TV.ts++tsB obl)):=fun Y f e S=>match e with
 | .exit _=>none
 | _=>match ze8 S n outs obl slots with
  | some (p,y)=>gdL p (some (f y))
  | none=>none
theorem q4h {n:Nat} {outs:List TV} {obl:List TB} {slots:List RS}:NatK (finS n outs obl slots):=fun Y f e S=>by
 cases e<;>simp only [finS]
 ·split
  ·rw [qdu];rfl
  ·rfl
 ·rfl
 ·split
  ·rw [qdu];rfl
  ·rfl
noncomputable def SCon.vc (c:SCon) (sp:Spec) (L:List LSh) (ac:AC) (n:Nat) (slots:List RS):Prop :=
 allD (c.ins.flatMap TV.ts++tsB c.ibl) fun env=>match c.pre env,c.F env with
  | some p,some r=>impL p (runO sp L ac ⟨stV (qa3 0 c.ibl.length) c.ins c.ibl env++List.replicate n .undef,stB (qa3 0 c.ibl.length) c.ins c.ibl env⟩ (finS c.ibl.length c.outs c.obl slots) (Dens (c.outs.flatMap TV.ts++tsB c.obl)) id=some r)
  | _,_=>False
noncomputable def SCon.goal (P:Program) (sp:Spec) (c:SCon) (L:List LSh) (ms:List Nat) (lm:List (List Nat)):Prop :=
 match comp P c.f c.ins.length ms lm with
 | some ⟨ac,n,slots⟩=>c.vc sp L ac n slots
 | none=>False
theorem qvz:∀ {K:List Nat},q5d K=K.map fun b=>(b,.dead)
 | []=>rfl
 | b::K=>by rw [q5d,qvz];rfl
theorem qm3 {ρ:List (Option Nat)} {b:Nat}:∀ {l:List Nat},b∈qxr ρ l→b∈l
 | x::l,h=>by
  simp only [qxr] at h;split at h
  ·exact wam _ (qm3 h)
  ·rcases List.mem_cons.1 h with rfl | h
   ·exact way ..
   ·exact wam _ (qm3 h)
theorem qll:∀ {H:List Hs} {n b:Nat},b∈qbj n H→n≤b∧∃ x,H[b-n]?=some x∧x≠.free
 | [],n,b,h=>by simp [qbj] at h
 | x::H,n,b,h=>by
  have key:b∈qbj (n+1) H→n≤b∧∃ y,(x::H)[b-n]?=some y∧y≠.free:=fun h=>by
   obtain ⟨h1,y,hy⟩:=qll h;refine ⟨by omega,y,?_⟩
   rw [show b-n=(b-(n+1))+1 by omega,wa4]
   exact hy
  cases x with
  | live B =>
   simp only [qbj,List.mem_cons] at h
   rcases h with rfl | h
   ·exact ⟨wad _,.live B,by simp,by simp⟩
   ·exact key h
  | view c i f =>
   simp only [qbj,List.mem_cons] at h
   rcases h with rfl | h
   ·exact ⟨wad _,.view c i f,by simp,by simp⟩
   ·exact key h
  | free=>exact key h
  | dead=>exact key h
section
variable {P:Program}
theorem qkl {w:World} {Γ:Cx} {S:St} {a:Act} (em:Emb Γ S a w) {Γz:Cx} (hI:∀ n,Jf Γ S.H n↔Γz.I n) (hA:∀ b,Γ.A b→Γz.A b∧Γz.ν b=Γ.ν b∧Γz.κ b=Γ.κ b) {g:ResultVar→Sem Value} (hg:∀ t,g (.tmp t)=pure (a.tmps.getD t undef)) (hc:∀ n t,g (.cell n t)=do loadVar t (← asAddr (a.tmps.getD n undef))) :
  ∀ {tvs:List TV} {slots:List RS} {l:List ResultVar} {p:List Prop} {xs:List AV},qbw P l=some slots→frzR S tvs slots=some (p,xs)→allP p →
  ∃ us,(l.mapM g).run P w=.ok us w∧Fa w Γz xs us
 | tvs,slots,[],p,xs,hl,h,_=>by
  simp only [qbw,waz] at hl;subst hl
  cases tvs with
  | nil =>
   simp only [frzR,waz,wa1] at h;obtain ⟨_,rfl⟩:=h;exact ⟨[],by simp,trivial⟩
  | cons t ts=>simp [frzR] at h
 | tvs,slots,x::l,p,xs,hl,h,hp=>by
  obtain ⟨r,rest,rfl,h1,h2⟩:=qje hl
  cases tvs with
  | nil=>simp [frzR] at h
  | cons tv tvs =>
   have other:∀ n q r',r=.tmp n→frzR S tvs rest=some (q,r')→p=q→xs=S.T.getD n .undef::r'→∃ us,((x::l).mapM g).run P w=.ok us w∧Fa w Γz xs us:=by
    rintro n q r' rfl k2 rfl rfl
    cases x with
    | tmp m =>
     simp only [qbw,waz,wa0,RS.tmp.injEq,and_true] at h1;subst h1;obtain ⟨us,m3,m4⟩:=qkl em hI hA hg hc h2 k2 hp;refine ⟨a.tmps.getD m undef::us,by simp [List.mapM_cons,hg,m3],?_,m4⟩
     exact Rp.mono (fun b hb=>(hI b).1 (.inl hb)) (fun _ _=>rfl) hA _ _ (qsk em m)
    | cell m t =>
     simp only [qbw] at h1;split at h1<;>simp at h1
   simp only [frzR] at h
   cases hft:frzT S tv r with
   | some t =>
    rw [hft] at h;simp only at h;split at h
    ·rename_i p1 z q r' k1 k2;cases h;obtain ⟨hp1,hp2⟩:=qag.1 hp;obtain ⟨v,m1,m2⟩:=qjh em hg hc h1 k1 hp1;obtain ⟨us,m3,m4⟩:=qkl em hI hA hg hc h2 k2 hp2;refine ⟨v::us,by simp [List.mapM_cons,m1,m3],?_,m4⟩
     refine Ra_val.2 ?_;obtain ⟨cs,c1,c2⟩:=m2;exact ⟨cs,RepC.mono (fun b hb=>(hI b).1 hb) (fun _ _=>rfl) _ _ _ c1,c2⟩
    ·cases h
   | none =>
    rw [hft] at h;simp only at h;split at h
    ·rename_i n q r' k1;simp only [waz,wa1] at h;exact other n q r' rfl k1 h.1.symm h.2.symm
    ·cases h
theorem q4k {w:World} {Γ:Cx} {xs:List AV} {us:List Value} (h:Fa w Γ xs us):Ra w Γ (resS xs) (resV us):=by
 match xs,us,h with
 | [],[],h =>
  simp only [resS,resV,Ra,Rp,wa0,and_true];exact ⟨[],rfl,qds.2 h⟩
 | [x],[u],h=>exact h.1
 | x::x'::xs,u::u'::us,h =>
  simp only [resS,resV,Ra,Rp,wa0,and_true];exact ⟨_,rfl,qds.2 h⟩
 | [],_::_,h=>exact h.elim
 | _::_,[],h=>exact h.elim
 | [_],_::_::_,h=>exact h.2.elim
 | _::_::_,[_],h=>exact h.2.elim
theorem SCon.prove (c:SCon) {sp:Spec} (hsp:SpecOk P sp) (hfr:qcu sp) (hm:P.follows .mixedOrders=true) {fn:Func} {code:Code} {ms:List Nat} {lm lm':List (List Nat)} {ac:AC} {slots:List RS} {n:Nat}
  (hf:P.funcs[c.f]?=some fn) (hb:fn.body=some code) (hcall:qbr P c.f=true) (hn:fn.ntmps-c.ins.length=n) (hres:qbw P fn.results.toList=some slots) (hc:qe5 P ms code lm=some (ac,lm'))
  {L:List LSh} (h:c.vc sp L ac n slots):c.Ok P:=by
 refine ⟨hcall,fun Γ w env p r vs em henv hpre hF hp hargs=>?_⟩
 have h:=qj3 h henv;rw [hpre,hF] at h;have h:=qm8 h hp;have hal:(stV (qa3 0 c.ibl.length) c.ins c.ibl env).length=c.ins.length:=qlr;generalize hH0:stB (qa3 0 c.ibl.length) c.ins c.ibl env=H0 at em h ⊢;have hH0l:H0.length=c.ibl.length:=by rw [← hH0];exact qdv
 generalize stV (qa3 0 c.ibl.length) c.ins c.ibl env=xs0 at hal hargs h;have hlen:xs0.length=vs.length:=hargs.length;have em0:Emb Γ ⟨xs0++List.replicate n .undef,H0⟩ { tmps:=vs.toArray++Array.replicate (fn.ntmps-vs.toArray.size) undef,defers:=[] } w:=by
  refine ⟨rfl,?_,fun i x hx=>?_,em⟩
  ·simp only [Array.size_append,Array.size_replicate,wae,waq,List.size_toArray];rw [hlen,← hn,← hal,hlen]
  ·rcases Nat.lt_or_ge i vs.length with hi | hi
   ·rw [waf (by omega)] at hx
    obtain ⟨v,hv,hr⟩:=hargs.get i x hx;refine ⟨v,?_,hr⟩;rw [Array.getElem?_append_left (by simpa using hi)]
    simpa using hv
   ·rw [wag (by omega),wax] at hx
    split at hx
    ·rename_i hlt;cases hx;have hsz:i<(vs.toArray++Array.replicate (fn.ntmps-vs.toArray.size) undef).size:=by
      simp only [Array.size_append,Array.size_replicate,List.size_toArray];omega
     exact ⟨_,Array.getElem?_eq_getElem hsz,qcg⟩
    ·cases hx
 refine calls_of_wp hf hb (wp_mono (qoq hsp hfr hm code lm ac lm' hc _ q4h r Γ _ _ w em0 h) fun e a w' hq=>?_)
 obtain ⟨Γ',S',em',hx,hk⟩:=hq;have key:∀ hk:finS c.ibl.length c.outs c.obl slots (Dens (c.outs.flatMap TV.ts++tsB c.obl)) id .normal S'=some r,a.defers=[]∧∃ v,(results fn a.tmps).run P w'=.ok v w'∧∃ v' Γ',Ending.returned v=.returned v' ∧
   Ext Γ H0 w Γ' (stB (qa3 0 c.obl.length) c.outs c.obl (qba _ r)) w'∧EmbH Γ' (stB (qa3 0 c.obl.length) c.outs c.obl (qba _ r)) w'∧Ra w' Γ' (resS (stV (qa3 0 c.obl.length) c.outs c.obl (qba _ r))) v':=by
  intro hk;simp only [finS] at hk;split at hk
  ·rename_i q y hy;obtain ⟨hq,he⟩:=qbi.1 hk;simp only [id,waz] at he;subst he;simp only [ze8] at hy;generalize hKK:qxr (qfs c.obl (rhoL (qdd S'.H 0 c.obl (qu7 0 c.ibl.length++qfi c.outs (rawR S'.T slots))) 0 c.obl)) (qbj 0 S'.H)=K at hy;split at hy
   ·rename_i p1 xs hfz;split at hy
    ·rename_i ρ q1 env' hrt;split at hy
     ·rename_i r' hid htd;cases hy;obtain ⟨hp1,hq1⟩:=qag.1 hq;have hKA:∀ b∈K,Γ'.A b:=fun b hb=>by
       rw [← hKK] at hb;have:=(qll (qm3 hb)).2;rw [Nat.sub_zero] at this;exact (em'.heap.al b).2 this
      have emM:Emb Γ' ⟨S'.T,qc7 K 0 S'.H⟩ a w':=⟨em'.defers,em'.size,em'.tmp,qr9 em'.heap⟩;obtain ⟨x1,em1⟩:=qmy (K:=K) (I:=Jf Γ' (qc7 K 0 S'.H)) em'.heap hKA (fun _ _=>rfl) (wad _) rfl rfl (fun _ h=>.inl h) (fun n hn=>.inl hn) (fun n hn=>by
       rcases hn with h | hw
       ·exact em'.heap.old n h
       ·obtain ⟨c,hc⟩:=q2g (hw.sub fun _ _ h=>(qbc h).1)
        exact em'.heap.own_lt hc)
      rw [← qvz] at x1 em1;have hz:=hx.trans x1;have hex:∃ us,(∀ g:ResultVar→Sem Value,(∀ t,g (.tmp t)=pure (a.tmps.getD t undef))→(∀ n t,g (.cell n t)=do loadVar t (← asAddr (a.tmps.getD n undef)))→(fn.results.toList.mapM g).run P w'=.ok us w')∧Fa w' { Γ' with I:=Jf Γ' (qc7 K 0 S'.H) } xs us:=by
       let g0:ResultVar→Sem Value:=fun | .tmp t=>pure (a.tmps.getD t undef) | .cell n t=>do loadVar t (← asAddr (a.tmps.getD n undef))
       obtain ⟨us,u1,u2⟩:=qkl emM (Γz:={ Γ' with I:=Jf Γ' (qc7 K 0 S'.H) }) (fun n=>Iff.rfl) (fun b hb=>⟨hb,rfl,rfl⟩) (g:=g0) (fun _=>rfl) (fun _ _=>rfl) hres hfz hp1
       refine ⟨us,fun g h1 h2=>?_,u2⟩
       have:g=g0:=by funext x;cases x<;>simp [g0,h1,h2]
       rw [this];exact u1
      obtain ⟨us,k1,k2⟩:=hex;obtain ⟨g1,g2,g3,g4,g5⟩:=qjg em1 hrt hq1;have hde:=qmt htd;rw [← hde];refine ⟨em'.defers,_,qnb k1,_,({ Γ' with I:=Jf Γ' (qc7 K 0 S'.H) }:Cx).head 0 ρ noA,rfl,⟨hz.fr,hz.size,hz.os,hz.out,fun n hn=>?_,hz.im,hz.mi,fun b hb=>?_⟩,g3,q4k (g5 us k2)⟩
      ·obtain ⟨j,c',_,m2⟩:=g4 n hn;exact hz.wr n m2.wr
      ·have hlt:b<c.ibl.length:=by
        obtain ⟨x,hx,_⟩:=(em.al b).1 hb;have:=qbf hx;omega
       have hid':=qjd hid b hlt;rw [wa7] at hid';obtain ⟨f1,f2,f3⟩:=(Nm.head (Γ:={ Γ' with I:=Jf Γ' (qc7 K 0 S'.H) }) (len:=0) (ρ:=ρ) (A0:=noA)).so b b hid'
       rw [qau (qb6 hid'),wa7] at f1 f2 f3;obtain ⟨_,z2,z3⟩:=hz.al b hb;exact ⟨f1,f2.trans z2,f3.trans z3⟩
     ·cases hy
    ·cases hy
   ·cases hy
  ·cases hk
 cases e with
 | normal=>exact key hk
 | ret=>exact key hk
 | exit i=>cases hk
 | goto l=>exact hk.elim
 | panic c=>exact hk.elim
 | outgrown=>exact hk.elim
end
theorem SCon.of_goal {P:Program} {cs:List Con} {ss:List SCon} (hm:P.follows .mixedOrders=true) (h:∀ c∈cs,c.Ok P) (hs:∀ c∈ss,c.Ok P) (c:SCon) {L:List LSh} {ms:List Nat} {lm:List (List Nat)} (hg:c.goal P (spS ss cs) L ms lm):c.Ok P:=by
 unfold SCon.goal at hg;split at hg
 ·rename_i ac n slots hc;unfold comp at hc;split at hc
  ·rename_i fn hf;split at hc
   ·cases hc
   ·rename_i hnm;split at hc
    ·rename_i code hb;split at hc
     ·rename_i ac' lm' slots' h1 h2;cases hc;refine SCon.prove c (qzq h hs) qkm hm hf hb ?_ rfl h2 h1 hg;simp [qbr,hf,hnm,hb]
     ·cases hc
    ·cases hc
  ·cases hc
 ·exact hg.elim
theorem Con.of_goalS {P:Program} {cs:List Con} {ss:List SCon} (hm:P.follows .mixedOrders=true) (h:∀ c∈cs,c.Ok P) (hs:∀ c∈ss,c.Ok P) (c:Con) {L:List LSh} {ms:List Nat} {lm:List (List Nat)} (hg:c.goal P (spS ss cs) L ms lm):c.Ok P:=by
 unfold Con.goal at hg;split at hg
 ·rename_i ac n slots hc;unfold comp at hc;split at hc
  ·rename_i fn hf;split at hc
   ·cases hc
   ·rename_i hnm;split at hc
    ·rename_i code hb;split at hc
     ·rename_i ac' lm' slots' h1 h2;cases hc;refine Con.prove c (qzq h hs) qkm hm hf hb ?_ rfl h2 h1 hg;simp [qbr,hf,hnm,hb]
     ·cases hc
    ·cases hc
  ·cases hc
 ·exact hg.elim
def mkS (f:FuncId) (ins:List TV) (ibl:List TB) (outs:List TV) (obl:List TB) (pre:Cur (ins.flatMap TV.ts++tsB ibl) (List Prop)) (F:Cur (ins.flatMap TV.ts++tsB ibl) (Dens (outs.flatMap TV.ts++tsB obl))):SCon :=
 ⟨f,ins,ibl,outs,obl,appC _ pre,appC _ F⟩
theorem okS0 {P:Program}:∀ c∈([]:List SCon),c.Ok P:=fun _ h=>nomatch h
theorem okS {P:Program} {c:SCon} {cs:List SCon} (h:c.Ok P) (hs:∀ x∈cs,x.Ok P):∀ x∈c::cs,x.Ok P:=fun x hx=>by
 rcases List.mem_cons.1 hx with rfl | hx
 ·exact h
 ·exact hs x hx
end Go.Ab
