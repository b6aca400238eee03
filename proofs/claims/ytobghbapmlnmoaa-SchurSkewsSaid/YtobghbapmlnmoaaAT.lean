/- Lists and loops that count: what laws about slices of numbers want. -/
import Derived.Test.YtobghbapmlnmoaaAS
set_option linter.unusedVariables false
set_option linter.unusedSimpArgs false
namespace Go.Ab
abbrev I64:Ty:=.int .i64
abbrev LI:Ty:=.slice I64
theorem q6b {x y:Int}:ieq x y=decide (x=y):=by by_cases h:x=y<;>simp [ieq,h]
theorem zdm {x y:Int}:ile x y=decide (x≤y):=by
 by_cases h:x≤y
 ·rw [qd9.2 h,decide_eq_true h]
 ·rw [qdn.2 (by omega),decide_eq_false h]
theorem zdx {x y:Int}:ilt x y=decide (x<y):=by
 by_cases h:x<y
 ·rw [qak.2 h,decide_eq_true h]
 ·rw [qag.2 (by omega),decide_eq_false h]
def ris:List Int→Bool
 | x::y::l=>decide (x<y) && ris (y::l)
 | _=>true
def small {α:Type} (l:List α):Prop:=(l.length:Int)<9223372036854775808
theorem qyb {x:Int}:∀ {l:List Int},ris (x::l)=true→ris l=true∧∀ y∈l,x<y
 | [],_=>⟨rfl,fun y hy=>by cases hy⟩
 | z::l,h=>by
  rw [ris,wbc,wbn] at h;refine ⟨h.2,fun y hy=>?_⟩
  rcases List.mem_cons.1 hy with rfl | hy
  ·exact h.1
  ·have:=(qyb h.2).2 y hy;omega
theorem qs6 {f:Int→Bool}:∀ (n:Nat) (lo:Int) (l:List Int),ris l=true→(∀ x∈l,lo≤x∧x<lo+n)→l.countP f≤(List.range n).countP (fun (i:Nat)=>f (lo+i))
 | 0,lo,[],_,_=>by simp
 | 0,lo,x::l,_,h=>by have:=h x (by simp);omega
 | n+1,lo,[],_,_=>by simp
 | n+1,lo,x::l,hr,h=>by
  obtain ⟨hr',hlt⟩:=qyb hr;have hx:=h x (by simp)
  have e:(List.range (n+1)).countP (fun (i:Nat)=>f (lo+i))=(if f lo=true then 1 else 0)+(List.range n).countP (fun (i:Nat)=>f (lo+1+i)):=by
   rw [List.range_succ_eq_map,List.countP_cons,List.countP_map,Nat.add_comm];have:((fun i:Nat=>f (lo+i)) ∘ Nat.succ)=fun i:Nat=>f (lo+1+i):=by
    funext i;show f (lo+((i+1:Nat):Int))=f (lo+1+i);congr 1;omega
   rw [this];simp
  rw [e]
  by_cases hx0:x=lo
  ·subst hx0;have:=qs6 (f:=f) n (x+1) l hr' (fun y hy=>by have h1:=h y (by simp [hy]);have h2:=hlt y hy;omega)
   rw [List.countP_cons];omega
  ·have:=qs6 (f:=f) n (lo+1) (x::l) hr (fun y hy=>by
    rcases List.mem_cons.1 hy with rfl | hy'
    ·omega
    ·have h1:=h y (by simp [hy']);have h2:=hlt y hy';omega)
   omega
structure SCon where
 f:FuncId
 ins:List TV
 ibl:List TB
 outs:List TV
 obl:List TB
 pre:List AV→Option (List Prop)
 F:List AV→Option (Dens (outs.flatMap TV.ts++tsB obl))
def resS:List AV→AV
 | [x]=>x
 | l=>.tup (toAV l)
def stL (bl:List TB) (tvs:List TV) (env:List AV):List Nat:=qu0 bl (qgv (cntC tvs) env)
def stB (nm:List Nat) (tvs:List TV) (bl:List TB) (env:List AV):List Hs:=qbj nm (stL bl tvs env) bl (qgv (cntC tvs) env)
def stV (nm:List Nat) (tvs:List TV) (bl:List TB) (env:List AV):List AV:=qgi nm (stL bl tvs env) tvs env
def SCon.Ok (P:Program) (c:SCon):Prop:=qbw P c.f=true ∧
 ∀ (Γ:Cx) (w:World) (env:List AV) (p:List Prop) (r:Dens (c.outs.flatMap TV.ts++tsB c.obl)) (vs:List Value),EmbH Γ (stB (qa3 0 c.ibl.length) c.ins c.ibl env) w→qdr (c.ins.flatMap TV.ts++tsB c.ibl) env→c.pre env=some p→c.F env=some r→allP p →
  Fa w Γ (stV (qa3 0 c.ibl.length) c.ins c.ibl env) vs →
  Calls P c.f vs.toArray w fun en w'=>∃ v Γ',en=.returned v∧Ext Γ (stB (qa3 0 c.ibl.length) c.ins c.ibl env) w Γ' (stB (qa3 0 c.obl.length) c.outs c.obl (qbc _ r)) w' ∧
   EmbH Γ' (stB (qa3 0 c.obl.length) c.outs c.obl (qbc _ r)) w'∧Ra w' Γ' (resS (stV (qa3 0 c.obl.length) c.outs c.obl (qbc _ r))) v
def qiw (acc:List (Nat×Nat)) (H:List Hs) (tvs:List TV) (bl:List TB) (xs:List AV):Option (List (Option Nat)×List Prop×List AV) :=
 match rhoL (qdk H 0 bl acc) 0 bl with
 | ρ=>match qi9 (qgp bl ρ) with
  | true=>match qge ρ H (qf2 H ρ bl) tvs xs,qcm ρ H (qf2 H ρ bl) ρ bl with
   | some (p,h),some (q,r)=>some (ρ,p++q,h++r)
   | _,_=>none
  | false=>none
def noA:Nat→Prop:=fun _=>False
section
variable {w w':World} {Γ Γ':Cx} {H:List Hs}
theorem ql6 {acc:List (Nat×Nat)} {tvs:List TV} {bl:List TB} {xs:List AV} {ρ:List (Option Nat)} {p:List Prop} {env:List AV} (h:qiw acc H tvs bl xs=some (ρ,p,env)) :
  ∃ p1 h1 q r,ρ=rhoL (qdk H 0 bl acc) 0 bl∧qi9 (qgp bl ρ)=true∧qge ρ H (qf2 H ρ bl) tvs xs=some (p1,h1)∧qcm ρ H (qf2 H ρ bl) ρ bl=some (q,r)∧p=p1++q∧env=h1++r:=by
 simp only [qiw] at h;generalize hρ:rhoL (qdk H 0 bl acc) 0 bl=ρ' at h;split at h
 ·rename_i hnd;split at h
  ·rename_i p1 h1 q r e1 e2;cases h;exact ⟨p1,h1,q,r,rfl,hnd,e1,e2,rfl,rfl⟩
  ·cases h
 ·cases h
theorem q9o {b:Nat} {h:Hs} {n:Nat} (hlt:b<H.length):(H.set b h)[n]?=if n=b then some h else H[n]?:=by
 rw [wa5]
 by_cases hn:b=n
 ·subst hn;simp [hlt]
 ·rw [if_neg hn,if_neg (fun h'=>hn h'.symm)]
def OwnB (Γ:Cx) (H:List Hs) (c n:Nat):Prop:=(Live H c∧Γ.κ c≠0∧Γ.ν c=n)∨(Nest H c∧Γ.O c n)
theorem OwnB.wr {c n:Nat} (h:OwnB Γ H c n):Wr Γ H n:=h.elim (fun ⟨a,b,d⟩=>.inl ⟨c,a,b,d⟩) fun ⟨a,b⟩=>.inr ⟨c,a,b⟩
theorem q2g {n:Nat} (h:Wr Γ H n):∃ c,OwnB Γ H c n:=h.elim (fun ⟨c,a,b,d⟩=>⟨c,.inl ⟨a,b,d⟩⟩) fun ⟨c,a,b⟩=>⟨c,.inr ⟨a,b⟩⟩
theorem EmbH.own_eq (e:EmbH Γ H w) {b c n:Nat} (h:OwnB Γ H b n) (h':OwnB Γ H c n):b=c:=by
 rcases h with ⟨h1,h2,h3⟩ | ⟨h1,h2⟩<;>rcases h' with ⟨g1,g2,g3⟩ | ⟨g1,g2⟩
 ·exact e.inj b c h1 g1 h2 g2 (h3.trans g3.symm)
 ·exact absurd h3 (e.rows.main c b n g1 h1 h2 g2)
 ·exact absurd g3 (e.rows.main b c n h1 g1 g2 h2)
 ·exact e.rows.dis b c n h1 g1 h2 g2
theorem EmbH.own_lt (e:EmbH Γ H w) {b n:Nat} (h:OwnB Γ H b n):n<w.heap.size:=by
 rcases h with ⟨h1,h2,rfl⟩ | ⟨h1,h2⟩
 ·exact e.lt h1 h2
 ·exact e.rows.lt b n h1 h2
theorem EmbH.own_imm (e:EmbH Γ H w) {b n:Nat} (h:OwnB Γ H b n):¬ Γ.I n:=by
 rcases h with ⟨h1,h2,rfl⟩ | ⟨h1,h2⟩
 ·exact e.imm b h1 h2
 ·exact e.rows.imm b n h1 h2
theorem q9e (em:EmbH Γ H w) {ρ:List (Option Nat)} {lens:List Nat} {bl:List TB} {q:List Prop} {r rest:List AV} (hr:qcm ρ H lens ρ bl=some (q,r)) (hq:allP q) {n:Nat} (h:Wr (Γ.head 0 ρ noA) (qbj (qa3 0 ρ.length) lens bl (r++rest)) n) :
  ∃ (j c:Nat),ρ[j]?=some (some c)∧OwnB Γ H c n:=by
 have hn:Nm Γ (Γ.head 0 ρ noA) ρ (qa3 0 ρ.length):=Nm.head;obtain ⟨hrl,hrg⟩:=qir (nm:=qa3 0 ρ.length) rest hr hq
 rcases h with ⟨b,⟨B,hB⟩,hk,he⟩ | ⟨b,⟨t,rw,ou,hB⟩,ho⟩
 case inr =>
  obtain ⟨o,tb,p',h',rest',k1,k2,k3,k4⟩:=hrg _ _ hB;obtain ⟨i,h1,h2⟩:=ho
  cases o with
  | none =>
   have:=hn.rn _ k1 i;rw [qar (qcf k1),wbj] at this;exact absurd this h1
  | some c =>
   have hc:=qlg k2 rest' k4.symm c rfl;have:=hn.rr _ _ k1;rw [qar (qcf k1),wbj] at this;exact ⟨b,c,k1,.inr ⟨hc,(Cx.O_congr this).1 ⟨i,h1,h2⟩⟩⟩
 obtain ⟨o,tb,p',h',rest',k1,k2,k3,k4⟩:=hrg _ _ hB;obtain ⟨m1,m2⟩:=qjh em.blk hn k1 k2 k3 rest' k4.symm;have hj:=qcf k1
 cases o with
 | none =>
  have:=(hn.no _ k1).2;rw [qar hj,wbj] at this;exact absurd this hk
 | some c =>
  obtain ⟨_,g2,g3⟩:=hn.so _ _ k1;rw [qar hj,wbj] at g2 g3;exact ⟨b,c,k1,.inl ⟨m1 c rfl,by rw [← g3];exact hk,by rw [← g2];exact he⟩⟩
theorem qj9 (em:EmbH Γ H w) {acc:List (Nat×Nat)} {tvs:List TV} {bl:List TB} {xs:List AV} {ρ:List (Option Nat)} {p:List Prop} {env:List AV} (h:qiw acc H tvs bl xs=some (ρ,p,env)) (hp:allP p) :
  ρ.length=bl.length∧qdr (tvs.flatMap TV.ts++tsB bl) env∧EmbH (Γ.head 0 ρ noA) (stB (qa3 0 bl.length) tvs bl env) w ∧
  (∀ n,Wr (Γ.head 0 ρ noA) (stB (qa3 0 bl.length) tvs bl env) n→∃ (j c:Nat),ρ[j]?=some (some c)∧OwnB Γ H c n) ∧
  ∀ vs,Fa w Γ xs vs→Fa w (Γ.head 0 ρ noA) (stV (qa3 0 bl.length) tvs bl env) vs:=by
 obtain ⟨p1,h1,q,r,hρ,hnd,e1,e2,rfl,rfl⟩:=ql6 h;have hρl:ρ.length=bl.length:=by rw [hρ];exact qjd
 obtain ⟨hp1,hq⟩:=qae.1 hp;have hdrop:qgv (cntC tvs) (h1++r)=r:=qda ((qkm e1).length.trans qnk);have hle:qu0 bl r=qf2 H ρ bl:=by have:=qw4 [] e2;rwa [wci] at this
 have hrl:=zax (K:=[]) (A0:=noA) em (fun b B hB=>by simp at hB) (fun b c i f hb=>by simp at hb) (fun b=>⟨fun h=>h.elim,fun ⟨x,hx,_⟩=>by simp at hx⟩) e2 hq hnd []
 simp only [wci,wbu,wbm] at hrl;have hn:Nm Γ (Γ.head 0 ρ noA) ρ (qa3 0 ρ.length):=Nm.head;have hst:stB (qa3 0 bl.length) tvs bl (h1++r)=qbj (qa3 0 ρ.length) (qf2 H ρ bl) bl r:=by
  simp only [stB,stL,hdrop,hle,hρl]
 refine ⟨hρl,(qkm e1).app (qoq e2),?_,fun n hn'=>?_,fun vs hf=>?_⟩
 ·rw [hst];exact hrl.1
 ·rw [hst] at hn';have:=q9e (rest:=[]) em e2 hq (n:=n);rw [wci] at this;exact this hn'
 ·have:=qwq em.blk hn r e1 hp1 hf;simp only [stV,stL,hdrop,hle,← hρl];exact this
def TV.pl (m:Nat):TV→Bool
 | .sl j _ _=>Nat.blt j m
 | .slf j _=>Nat.blt j m
 | .ref j _ _ _=>Nat.blt j m
 | .mref j=>Nat.blt j m
 | .fn _ c=>c.pl m
 | .cons a l=>a.pl m && l.pl m
 | .opt x=>x.pl m
 | _=>true
def plC (m:Nat):List TV→Bool
 | []=>true
 | x::l=>x.pl m && plC m l
def plB (m:Nat):List TB→Bool
 | []=>true
 | .cells l::bl=>plC m l && plB m bl
 | .mix l _::bl=>plC m l && plB m bl
 | .view _::_=>false
 | _::bl=>plB m bl
theorem qjn {m:Nat} {nm lens:List Nat}:∀ {bl:List TB} {env:List AV} {j:Nat} {c i:Nat} {f:Bool},plB m bl=true→(qbj nm lens bl env)[j]?≠some (.view c i f)
 | [],_,_,_,_,_,_,h=>by simp [qbj] at h
 | b::bl,env,0,c,i,f,hp,h=>by
  simp only [qbj,wbg,wa8] at h;cases b<;>simp [qdf,plB] at h hp
 | b::bl,env,j+1,c,i,f,hp,h=>by
  simp only [qbj,wbd] at h;have hp':plB m bl=true:=by cases b<;>simp [plB] at hp<;>first | exact hp | exact hp.2
  exact qjn hp' h
def VE (env:List AV):Prop:=∀ x∈env,∃ (t:Ty) (y:Den t),x=.val t y
theorem qdr.ve:∀ {ts:List Ty} {env:List AV},qdr ts env→VE env
 | [],[],_=>fun x hx=>by cases hx
 | t::ts,x::xs,h=>fun y hy=>by
  rcases List.mem_cons.1 hy with rfl | hy
  ·obtain ⟨z,hz⟩:=h.1;exact ⟨t,z,hz⟩
  ·exact qdr.ve h.2 y hy
 | [],_::_,h=>h.elim
 | _::_,[],h=>h.elim
theorem qst:∀ {ts:List Ty} {x:Dens ts},qdr ts (qbc ts x)
 | [],_=>trivial
 | t::ts,x=>⟨⟨x.1,rfl⟩,qst⟩
theorem VE.drop:∀ {n:Nat} {env:List AV},VE env→VE (qgv n env)
 | 0,_,h=>h
 | _+1,[],h=>h
 | n+1,_::l,h=>VE.drop (n:=n) fun x hx=>h x (wan _ hx)
section
variable {nm nm' lens:List Nat} {m:Nat}
theorem qkr (hI:∀ b,Γ.I b→Γ'.I b) (hr:∀ j,j<m→Γ'.A (nmAt nm' j)∧Γ'.ν (nmAt nm' j)=Γ.ν (nmAt nm j)∧Γ'.κ (nmAt nm' j)=Γ.κ (nmAt nm j)):∀ {tv:TV} {env:List AV} {vs:List Value},tv.pl m=true→VE env →
  Rp w Γ (qdw nm lens tv env) vs→Rp w Γ' (qdw nm' lens tv env) vs
 | .u,env,vs,_,_,h=>by simpa only [qdw,Rp] using h
 | .v t,[],vs,_,_,h=>by simpa only [qdw,List.headD_nil,Rp] using h
 | .v t,x::env,vs,_,hv,h=>by
  obtain ⟨t',y,rfl⟩:=hv x (by simp)
  simp only [qdw,List.headD_cons,Rp] at h ⊢;obtain ⟨v,e,h⟩:=h;exact ⟨v,e,h.mono hI (fun _ _=>rfl)⟩
 | .sl j s i,env,vs,hj,_,h=>by
  simp only [qdw,Rp] at h ⊢;obtain ⟨g1,g2,g3⟩:=hr j (by simpa [TV.pl] using hj)
  exact ⟨g1,by rw [g2,g3];exact h.2⟩
 | .slf j s,env,vs,hj,_,h=>by
  simp only [qdw,Rp] at h ⊢;obtain ⟨g1,g2,g3⟩:=hr j (by simpa [TV.pl] using hj)
  exact ⟨g1,by rw [g2,g3];exact h.2⟩
 | .ref j s i o,env,vs,hj,_,h=>by
  simp only [qdw,Rp] at h ⊢;obtain ⟨g1,g2,g3⟩:=hr j (by simpa [TV.pl] using hj)
  exact ⟨g1,by rw [g2];exact h.2⟩
 | .mref j,env,vs,hj,_,h=>by
  simp only [qdw,Rp] at h ⊢;obtain ⟨g1,g2,g3⟩:=hr j (by simpa [TV.pl] using hj)
  exact ⟨g1,by rw [g2];exact h.2⟩
 | .fn f c,env,vs,hj,hv,h=>by
  simp only [qdw,Rp] at h ⊢;obtain ⟨us,e,h⟩:=h;exact ⟨us,e,qkr hI hr (tv:=c) hj hv h⟩
 | .nil,env,vs,_,_,h=>by simpa only [qdw,Rp] using h
 | .cons a l,env,vs,hj,hv,h=>by
  simp only [TV.pl,wbc] at hj;simp only [qdw,Rp] at h ⊢;obtain ⟨v,us,e,h1,h2⟩:=h;exact ⟨v,us,e,qkr hI hr hj.1 hv h1,qkr hI hr hj.2 hv.drop h2⟩
 | .opt x,env,vs,hj,hv,h=>by
  simp only [qdw,Rp] at h ⊢;exact ⟨h.1,h.2.1,fun hb=>⟨qkr hI hr (tv:=x) hj hv.drop (h.2.2 hb).1,(h.2.2 hb).2⟩⟩
theorem qnc (hI:∀ b,Γ.I b→Γ'.I b) (hr:∀ j,j<m→Γ'.A (nmAt nm' j)∧Γ'.ν (nmAt nm' j)=Γ.ν (nmAt nm j)∧Γ'.κ (nmAt nm' j)=Γ.κ (nmAt nm j)):∀ {l:List TV} {env:List AV},plC m l=true→VE env →
  (qgi nm' lens l env).length=(qgi nm lens l env).length∧∀ (i:Nat) (a:AV),(qgi nm' lens l env)[i]?=some a→∃ a0,(qgi nm lens l env)[i]?=some a0∧∀ v,Ra w Γ a0 v→Ra w Γ' a v
 | [],env,_,_=>⟨rfl,fun i a h=>by simp [qgi] at h⟩
 | tv::l,env,hp,hv=>by
  simp only [plC,wbc] at hp;obtain ⟨k1,k2⟩:=qnc hI hr hp.2 (hv.drop (n:=tv.n));simp only [qgi];refine ⟨by simp only [wbf,k1],fun i a h=>?_⟩
  cases i with
  | zero =>
   simp only [wbg,wa8] at h ⊢;subst h;exact ⟨_,rfl,fun v h=>qkr hI hr hp.1 hv h⟩
  | succ i =>
   simp only [wbd] at h ⊢;exact k2 i a h
theorem qmh:∀ {l:List TV} {env:List AV},(qgi nm lens l env).length=l.length
 | [],_=>rfl
 | tv::l,env=>by simp [qgi,qmh (l:=l)]
theorem qpp (hI:∀ b,Γ.I b→Γ'.I b) (hr:∀ j,j<m→Γ'.A (nmAt nm' j)∧Γ'.ν (nmAt nm' j)=Γ.ν (nmAt nm j)∧Γ'.κ (nmAt nm' j)=Γ.κ (nmAt nm j)):∀ {bl:List TB} {env:List AV},plB m bl=true→VE env →
  ∀ (j:Nat) (B:Blk),(qbj nm' lens bl env)[j]?=some (.live B)→∃ B0,(qbj nm lens bl env)[j]?=some (.live B0)∧(∀ t r o,B=.nest t r o→∃ t r o,B0=.nest t r o)∧∀ b b',Γ'.ν b'=Γ.ν b→Γ'.κ b'=Γ.κ b→Γ'.R b'=Γ.R b→RepB w Γ b B0→RepB w Γ' b' B
 | [],env,_,_,j,B,h=>by simp [qbj] at h
 | tb::bl,env,hp,hv,j,B,h=>by
  have hp2:plB m bl=true:=by cases tb<;>simp [plB] at hp<;>first | exact hp | exact hp.2
  simp only [qbj] at h ⊢
  cases j with
  | succ j =>
   simp only [wbd] at h ⊢;exact qpp hI hr hp2 hv.drop j B h
  | zero =>
   simp only [wbg,wa8] at h ⊢
   cases tb with
   | arr t opn =>
    simp only [qdf,Hs.live.injEq] at h ⊢;subst h;refine ⟨_,rfl,(fun _ _ _ h=>by cases h),fun b b' hν hκ hR hb=>?_⟩
    simp only [RepB] at hb ⊢;rw [hν,hκ];obtain ⟨h1,h2,h3⟩:=hb;refine ⟨h1,h2,fun hk=>?_⟩
    obtain ⟨c,el,g1,g2,g3⟩:=h3 hk;refine ⟨c,el,g1,g2,fun i x hx=>?_⟩
    obtain ⟨cs,m1,m2⟩:=g3 i x hx;exact ⟨cs,RepC.mono hI (fun _ _=>rfl) _ _ _ m1,m2⟩
   | cells l =>
    simp only [qdf,Hs.live.injEq] at h ⊢;subst h;refine ⟨_,rfl,(fun _ _ _ h=>by cases h),fun b b' hν hκ hR hb=>?_⟩
    simp only [plB,wbc] at hp;obtain ⟨k1,k2⟩:=qnc (w:=w) (lens:=lens) hI hr hp.1 hv;simp only [RepB] at hb ⊢;rw [hν,hκ];obtain ⟨h1,c,el,h2,h3,h4⟩:=hb;refine ⟨h1,c,el,h2,h3.trans k1.symm,fun i a ha=>?_⟩
    obtain ⟨a0,g1,g2⟩:=k2 i a ha;obtain ⟨v,m1,m2,m3⟩:=h4 i a0 g1;exact ⟨v,m1,m2,g2 v m3⟩
   | map k v =>
    simp only [qdf,Hs.live.injEq] at h ⊢;subst h;refine ⟨_,rfl,(fun _ _ _ h=>by cases h),fun b b' hν hκ hR hb=>?_⟩
    simp only [RepB] at hb ⊢;rw [hν,hκ];obtain ⟨h1,c,el,h2,h3,h4⟩:=hb;refine ⟨h1,c,el,h2,h3,fun i a ha=>?_⟩
    obtain ⟨ent,ck,cv,m1,m2,m3,m4,m5⟩:=h4 i a ha;exact ⟨ent,ck,cv,m1,RepC.mono hI (fun _ _=>rfl) _ _ _ m2,m3,RepC.mono hI (fun _ _=>rfl) _ _ _ m4,m5⟩
   | mix l t =>
    simp only [qdf,Hs.live.injEq] at h ⊢;subst h;refine ⟨_,rfl,(fun _ _ _ h=>by cases h),fun b b' hν hκ hR hb=>?_⟩
    simp only [plB,wbc] at hp;obtain ⟨k1,k2⟩:=qnc (w:=w) (lens:=lens) (env:=qgv 1 env) hI hr hp.1 hv.drop;obtain ⟨ha,hb⟩:=qeo.1 hb;refine qeo.2 ⟨ha,?_⟩;simp only [RepB] at hb ⊢;rw [hν,hκ];obtain ⟨h1,c,el,h2,h3,h4⟩:=hb;refine ⟨h1,c,el,h2,h3.trans (by simp [mixL,k1]),fun i a ha=>?_⟩
    unfold mixL at ha h4
    rcases Nat.lt_or_ge i (qgi nm' lens l (qgv 1 env)).length with hi | hi
    ·rw [wag hi] at ha;obtain ⟨a0,g1,g2⟩:=k2 i a ha;obtain ⟨v,m1,m2,m3⟩:=h4 i a0 (by rw [wag (by omega)];exact g1)
     exact ⟨v,m1,m2,g2 v m3⟩
    ·rw [wah hi] at ha;obtain ⟨v,m1,m2,m3⟩:=h4 i a (by rw [wah (by omega),← k1];exact ha)
     rw [waq] at ha
     cases hz:(qjr t (env.headD .undef))[i-(qgi nm' lens l (qgv 1 env)).length]? with
     | none=>rw [hz] at ha;cases ha
     | some z =>
      rw [hz] at ha;cases ha;exact ⟨v,m1,m2,Ra_val.2 ((Ra_val.1 m3).mono hI (fun _ _=>rfl))⟩
   | dead=>simp [qdf] at h
   | view k=>simp [qdf] at h
   | nest t =>
    simp only [qdf,Hs.live.injEq] at h ⊢;subst h;refine ⟨_,rfl,(fun _ _ _ h=>⟨_,_,_,rfl⟩),fun b b' hν hκ hR hb=>?_⟩
    simp only [RepB] at hb ⊢;rw [hν,hκ,hR];obtain ⟨h1,h2⟩:=hb;refine ⟨h1,fun hk=>?_⟩
    obtain ⟨c,el,g1,g2,g3⟩:=h2 hk;refine ⟨c,el,g1,g2,fun i x hx=>?_⟩
    obtain ⟨m1,m2⟩:=g3 i x hx;exact ⟨m1.mono hI (fun _ _=>rfl) (fun _=>rfl),m2⟩
theorem zay {Γ Γ':Cx} {xs ys:List AV} {v:Value} (hl:ys.length=xs.length) (h:∀ (i:Nat) (a:AV),ys[i]?=some a→∃ a0,xs[i]?=some a0∧∀ v,Ra w Γ a0 v→Ra w Γ' a v) (hr:Ra w Γ (resS xs) v):Ra w Γ' (resS ys) v:=by
 have key:∀ us,Fa w Γ xs us→Fa w Γ' ys us:=fun us hf=>Fa.of_get (by rw [hl,hf.length]) fun i a ha=>by
  obtain ⟨a0,h1,h2⟩:=h i a ha;obtain ⟨u,h3,h4⟩:=hf.get i a0 h1;exact ⟨u,h3,h2 u h4⟩
 match xs,ys,hl with
 | [],[],_ =>
  simp only [resS,Ra,Rp,wa9,and_true] at hr ⊢;obtain ⟨us,e,hr⟩:=hr;exact ⟨us,e,qel.2 (key us (qel.1 hr))⟩
 | [x],[y],_ =>
  simp only [resS] at hr ⊢;exact (key [v] ⟨hr,trivial⟩).1
 | x::x'::xs,y::y'::ys,_ =>
  simp only [resS,Ra,Rp,wa9,and_true] at hr ⊢;obtain ⟨us,e,hr⟩:=hr;exact ⟨us,e,qel.2 (key us (qel.1 hr))⟩
end
def posN:List Nat→Nat→Option Nat
 | [],_=>none
 | x::l,b=>match Nat.beq x b with
  | true=>some 0
  | false=>match posN l b with
   | some j=>some (j+1)
   | none=>none
def qi0:List Nat→Bool
 | []=>true
 | x::l=>match posN l x with
  | none=>qi0 l
  | some _=>false
def qwk (H:List Hs) (b:Nat):Bool:=match H[b]? with
 | some .free=>false
 | some _=>true
 | none=>false
def nmOk (H:List Hs):List (Option Nat)→List Nat→Bool
 | [],[]=>true
 | none::ρ,n::nm=>qax H n && nmOk H ρ nm
 | some b::ρ,n::nm=>Nat.beq b n && qwk H n && nmOk H ρ nm
 | _,_=>false
def q0f:Nat→List (Option Nat)→List Nat
 | _,[]=>[]
 | base,some b::l=>b::q0f base l
 | base,none::l=>base::q0f (Nat.succ base) l
def qpg:List (Option Nat)→List Nat
 | []=>[]
 | some b::l=>b::qpg l
 | none::l=>qpg l
def zipH:List Nat→List Hs→List (Nat×Hs)
 | n::l,h::hs=>(n,h)::zipH l hs
 | _,_=>[]
theorem qg3:∀ {l:List Nat} {b j:Nat},posN l b=some j→l[j]?=some b
 | x::l,b,j,h=>by
  simp only [posN] at h;split at h
  ·rename_i hx;cases h;rw [waj hx];rfl
  ·split at h
   ·rename_i j' hj;cases h;simpa using qg3 hj
   ·cases h
theorem qhw:∀ {l:List Nat} {b:Nat},posN l b=none→b∉l
 | [],b,_=>by simp
 | x::l,b,h=>by
  simp only [posN] at h;split at h
  ·cases h
  ·rename_i hx;split at h
   ·cases h
   ·rename_i hn;have:=qhw hn;simp only [List.mem_cons,not_or];exact ⟨fun h=>(by rw [h,Nat.beq_refl] at hx;cases hx),this⟩
theorem qs2:∀ {l:List Nat} {b j:Nat},qi0 l=true→l[j]?=some b→posN l b=some j
 | x::l,b,0,_,hj=>by
  simp only [wbg,wa8] at hj;subst hj;simp [posN]
 | x::l,b,j+1,h,hj=>by
  simp only [wbd] at hj;simp only [qi0] at h;split at h
  ·rename_i hx;have hne:x≠b:=fun e=>qhw hx (e▸wb8 hj)
   have:Nat.beq x b=false:=Bool.eq_false_iff.2 fun h=>hne (waj h)
   simp only [posN,this,qs2 h hj]
  ·cases h
theorem q58 {l:List Nat} {b:Nat} (h:b∈l):∃ j,posN l b=some j:=by
 cases hp:posN l b with
 | none=>exact absurd h (qhw hp)
 | some j=>exact ⟨j,rfl⟩
theorem qsm:∀ {l:List Nat} {j b:Nat},l[j]?=some b→nmAt l j=b
 | x::l,0,b,h=>by simpa [nmAt] using h
 | x::l,j+1,b,h=>by simp only [nmAt];exact qsm (by simpa using h)
theorem qpo:∀ {ρ:List (Option Nat)} {nm:List Nat},nmOk H ρ nm=true→nm.length=ρ.length∧∀ (j n:Nat),nm[j]?=some n→(ρ[j]?=some none∧qax H n=true)∨(ρ[j]?=some (some n)∧qwk H n=true)
 | [],[],_=>⟨rfl,fun j n h=>by simp at h⟩
 | none::ρ,n::nm,h=>by
  simp only [nmOk,wbc] at h;obtain ⟨k1,k2⟩:=qpo h.2;refine ⟨by simp [k1],fun j b hb=>?_⟩
  cases j with
  | zero=>simp at hb;subst hb;exact .inl ⟨rfl,h.1⟩
  | succ j=>simpa using k2 j b (by simpa using hb)
 | some b0::ρ,n::nm,h=>by
  simp only [nmOk,wbc] at h;obtain ⟨k1,k2⟩:=qpo h.2;refine ⟨by simp [k1],fun j b hb=>?_⟩
  cases j with
  | zero =>
   simp at hb;subst hb;have:b0=n:=by simpa using h.1.1
   subst this;exact .inr ⟨rfl,h.1.2⟩
  | succ j=>simpa using k2 j b (by simpa using hb)
 | [],_::_,h=>by simp [nmOk] at h
 | _::_,[],h=>by rename_i x _;cases x<;>simp [nmOk] at h
theorem q2n:∀ {nm:List Nat} {hs H:List Hs},nm.length=hs.length→qi0 nm=true→(∀ b∈nm,b<H.length)→∀ b,(qao H (zipH nm hs))[b]?=match posN nm b with
  | some j=>hs[j]?
  | none=>H[b]?
 | [],[],H,_,_,_,b=>rfl
 | n::nm,h::hs,H,hl,hn,hb,b=>by
  simp only [zipH,qao];simp only [qi0] at hn;split at hn
  ·rename_i hx;rw [q2n (by simpa using hl) hn (fun c hc=>by rw [wak];exact hb c (wan _ hc))]
   simp only [posN];have hnl:=hb n (wa7 ..)
   cases hp:posN nm b with
   | none =>
    rw [q9o hnl]
    by_cases hbn:n=b
    ·subst hbn;simp
    ·have:Nat.beq n b=false:=Bool.eq_false_iff.2 fun h=>hbn (waj h)
     rw [if_neg (fun h=>hbn h.symm)]
     simp only [this]
   | some j =>
    have hne:n≠b:=fun e=>by subst e;rw [hx] at hp;cases hp
    have:Nat.beq n b=false:=Bool.eq_false_iff.2 fun h=>hne (waj h)
    simp only [this,wbd]
  ·cases hn
 | [],_::_,_,hl,_,_,_=>by simp at hl
 | _::_,[],_,hl,_,_,_=>by simp at hl
def Cx.back (Γ Γ1:Cx) (nm:List Nat):Cx where
 I:=Γ1.I
 A:=fun b=>Γ.A b∨b∈nm
 ν:=fun b=>match posN nm b with
  | some j=>Γ1.ν j
  | none=>Γ.ν b
 κ:=fun b=>match posN nm b with
  | some j=>Γ1.κ j
  | none=>Γ.κ b
 R:=fun b=>match posN nm b with
  | some j=>Γ1.R j
  | none=>Γ.R b
theorem q5o {b:Nat} (h:qwk H b=true):∃ x,H[b]?=some x∧x≠.free:=by
 unfold qwk at h;split at h
 ·cases h
 ·rename_i x hx hh;exact ⟨x,hh,fun e=>hx (e▸rfl)⟩
 ·cases h
theorem zb2 (e:EmbH Γ H w) {ρ:List (Option Nat)} {k:Nat} {nm:List Nat} (hnm:nmOk H (ρ++List.replicate k none) nm=true) (hnd:qi0 nm=true) {Hi Ho0 Ho:List Hs} {Γ1:Cx}
  (hwr:∀ n,Wr (Γ.head 0 ρ noA) Hi n→∃ (j c:Nat),ρ[j]?=some (some c)∧OwnB Γ H c n) (hx:Ext (Γ.head 0 ρ noA) Hi w Γ1 Ho0 w') (em1:EmbH Γ1 Ho0 w')
  (hl:Ho.length=nm.length) (hnf:∀ (j:Nat) (x:Hs),Ho[j]?=some x→x≠.free)
  (hrn:∀ (j:Nat) (B:Blk),Ho[j]?=some (.live B)→∃ B0,Ho0[j]?=some (.live B0)∧(∀ t r o,B=.nest t r o→∃ t r o,B0=.nest t r o)∧∀ b',(Γ.back Γ1 nm).ν b'=Γ1.ν j→(Γ.back Γ1 nm).κ b'=Γ1.κ j→(Γ.back Γ1 nm).R b'=Γ1.R j→RepB w' Γ1 j B0→RepB w' (Γ.back Γ1 nm) b' B) (hnw:∀ (j c i:Nat) (f:Bool),Ho[j]?≠some (.view c i f))
  (hV:∀ (m b i:Nat) (f:Bool) (j:Nat),H[m]?=some (.view b i f)→posN nm b=some j→¬ Nest Ho j) :
  Ext Γ H w (Γ.back Γ1 nm) (qao H (zipH nm Ho)) w'∧EmbH (Γ.back Γ1 nm) (qao H (zipH nm Ho)) w':=by
 obtain ⟨hl1,hsp⟩:=qpo hnm;have hlt:∀ b∈nm,b<H.length:=fun b hb=>by
  obtain ⟨j,hj⟩:=q58 hb
  rcases hsp j b (qg3 hj) with ⟨_,h⟩ | ⟨_,h⟩
  ·exact qbi (qbp h)
  ·obtain ⟨x,hx,_⟩:=q5o h;exact qbi hx
 have hget:∀ b,(qao H (zipH nm Ho))[b]?=match posN nm b with
  | some j=>Ho[j]?
  | none=>H[b]?:=q2n hl.symm hnd hlt
 have hν:∀ {b j:Nat},posN nm b=some j→(Γ.back Γ1 nm).ν b=Γ1.ν j:=fun h=>by simp only [Cx.back,h]
 have hκ:∀ {b j:Nat},posN nm b=some j→(Γ.back Γ1 nm).κ b=Γ1.κ j:=fun h=>by simp only [Cx.back,h]
 have hν':∀ {b:Nat},posN nm b=none→(Γ.back Γ1 nm).ν b=Γ.ν b:=fun h=>by simp only [Cx.back,h]
 have hκ':∀ {b:Nat},posN nm b=none→(Γ.back Γ1 nm).κ b=Γ.κ b:=fun h=>by simp only [Cx.back,h]
 have hA:∀ b,Γ.A b→(Γ.back Γ1 nm).A b∧(Γ.back Γ1 nm).ν b=Γ.ν b∧(Γ.back Γ1 nm).κ b=Γ.κ b:=fun b hb=>by
  refine ⟨.inl hb,?_⟩
  cases hp:posN nm b with
  | none=>exact ⟨hν' hp,hκ' hp⟩
  | some j =>
   rcases hsp j b (qg3 hp) with ⟨_,h⟩ | ⟨h,_⟩
   ·obtain ⟨x,hx,hne⟩:=(e.al b).1 hb;rw [qbp h] at hx;cases hx;exact absurd rfl hne
   ·have h':ρ[j]?=some (some b):=by
     rcases Nat.lt_or_ge j ρ.length with h1 | h1
     ·rwa [wag h1] at h
     ·rw [wah h1,wa6] at h;split at h<;>cases h
    obtain ⟨g1,g2,g3⟩:=(Nm.head (Γ:=Γ) (len:=0) (ρ:=ρ) (A0:=noA)).so j b h';rw [qar (qcf h'),wbj] at g1 g2 g3;obtain ⟨_,f2,f3⟩:=hx.al j g1;rw [hν hp,hκ hp];exact ⟨f2.trans g2,f3.trans g3⟩
 have hlive:∀ {b:Nat} {B:Blk},(qao H (zipH nm Ho))[b]?=some (.live B)→(∃ j,posN nm b=some j∧Ho[j]?=some (.live B))∨(posN nm b=none∧H[b]?=some (.live B)):=fun {b B} h=>by
  rw [hget] at h;split at h
  ·rename_i j hj;exact .inl ⟨j,hj,h⟩
  ·rename_i hj;exact .inr ⟨hj,h⟩
 have hL0:∀ {j:Nat} {B:Blk},Ho[j]?=some (.live B)→Live Ho0 j:=fun h=>by
  obtain ⟨B0,h0,_⟩:=hrn _ _ h;exact ⟨B0,h0⟩
 have hN0:∀ {j:Nat},Nest Ho j→Nest Ho0 j:=fun ⟨t,r,o,h⟩=>by
  obtain ⟨B0,h0,hn,_⟩:=hrn _ _ h;obtain ⟨t',r',o',rfl⟩:=hn t r o rfl;exact ⟨t',r',o',h0⟩
 have hR:∀ {b j:Nat},posN nm b=some j→(Γ.back Γ1 nm).R b=Γ1.R j:=fun h=>by simp only [Cx.back,h]
 have hR':∀ {b:Nat},posN nm b=none→(Γ.back Γ1 nm).R b=Γ.R b:=fun h=>by simp only [Cx.back,h]
 have hO:∀ {b j:Nat},posN nm b=some j→(Γ.back Γ1 nm).O b=Γ1.O j:=fun h=>by funext n;exact propext (Cx.O_congr (hR h))
 have hO':∀ {b:Nat},posN nm b=none→(Γ.back Γ1 nm).O b=Γ.O b:=fun h=>by funext n;exact propext (Cx.O_congr (hR' h))
 have hsep:∀ {b n:Nat},posN nm b=none→OwnB Γ H b n→¬ Wr (Γ.head 0 ρ noA) Hi n:=fun {b n} hp hb h=>by
  obtain ⟨j,c,h1,h2⟩:=hwr _ h;have hcb:=e.own_eq h2 hb;subst hcb;have hj:=qcf h1;have hjn:j<nm.length:=by rw [hl1,waf];omega
  have hg:=wab hjn
  rcases hsp j _ hg with ⟨h5,_⟩ | ⟨h5,_⟩
  ·rw [wag hj,h1] at h5;cases h5
  ·rw [wag hj,h1] at h5;simp only [wa8] at h5;exact qhw hp (h5▸wav hjn)
 have hwr1:∀ n,Wr (Γ.head 0 ρ noA) Hi n→Wr Γ H n:=fun n h=>by
  obtain ⟨j,c,_,h2⟩:=hwr n h;exact h2.wr
 have hown:∀ {b n:Nat},OwnB (Γ.back Γ1 nm) (qao H (zipH nm Ho)) b n→(∃ j,posN nm b=some j∧OwnB Γ1 Ho0 j n)∨(posN nm b=none∧OwnB Γ H b n):=fun {b n} h=>by
  rcases h with ⟨⟨B,hb⟩,hk,he⟩ | ⟨⟨t,r,o,hb⟩,ho⟩
  ·rcases hlive hb with ⟨j,hj,h⟩ | ⟨hj,h⟩
   ·exact .inl ⟨j,hj,.inl ⟨hL0 h,by rw [hκ hj] at hk;exact hk,by rw [hν hj] at he;exact he⟩⟩
   ·exact .inr ⟨hj,.inl ⟨⟨B,h⟩,by rw [hκ' hj] at hk;exact hk,by rw [hν' hj] at he;exact he⟩⟩
  ·rcases hlive hb with ⟨j,hj,h⟩ | ⟨hj,h⟩
   ·exact .inl ⟨j,hj,.inr ⟨hN0 ⟨t,r,o,h⟩,by rw [hO hj] at ho;exact ho⟩⟩
   ·exact .inr ⟨hj,.inr ⟨⟨t,r,o,h⟩,by rw [hO' hj] at ho;exact ho⟩⟩
 have hapart:∀ {b j n:Nat},posN nm b=none→OwnB Γ H b n→OwnB Γ1 Ho0 j n→False:=fun {b j n} hp h h'=>by
  rcases hx.wr n h'.wr with h1 | h1
  ·exact hsep hp h h1
  ·have:=e.own_lt h;omega
 have huniq:∀ {b b' n:Nat},OwnB (Γ.back Γ1 nm) (qao H (zipH nm Ho)) b n→OwnB (Γ.back Γ1 nm) (qao H (zipH nm Ho)) b' n→b=b':=fun {b b' n} h h'=>by
  rcases hown h with ⟨j,hj,h1⟩ | ⟨hj,h1⟩<;>rcases hown h' with ⟨j',hj',h1'⟩ | ⟨hj',h1'⟩
  ·have:=em1.own_eq h1 h1';subst this;have g:=qg3 hj;rw [qg3 hj'] at g;cases g;rfl
  ·exact (hapart hj' h1' h1).elim
  ·exact (hapart hj h1 h1').elim
  ·exact e.own_eq h1 h1'
 have himm:∀ {b n:Nat},OwnB (Γ.back Γ1 nm) (qao H (zipH nm Ho)) b n→¬ Γ1.I n:=fun {b n} h hI=>by
  rcases hown h with ⟨j,hj,h1⟩ | ⟨hj,h1⟩
  ·exact em1.own_imm h1 hI
  ·rcases hx.im _ hI with h2 | h2 | h2
   ·exact e.own_imm h1 h2
   ·exact hsep hj h1 h2
   ·have:=e.own_lt h1;omega
 refine ⟨⟨fun n hn hw=>hx.fr n hn fun h=>hw (hwr1 n h),hx.size,hx.os,hx.out,fun n hw=>?_,fun n hn=>?_,fun n hn=>hx.mi n hn,hA⟩,?_⟩
 ·obtain ⟨b,hb⟩:=q2g hw
  rcases hown hb with ⟨j,hj,h⟩ | ⟨hj,h⟩
  ·rcases hx.wr n h.wr with h1 | h1
   ·exact .inl (hwr1 n h1)
   ·exact .inr h1
  ·exact .inl h.wr
 ·rcases hx.im n hn with h | h | h
  ·exact .inl h
  ·exact .inr (.inl (hwr1 n h))
  ·exact .inr (.inr h)
 ·refine ⟨fun b B hB=>?_,fun b b' hb hb' hk hk' he=>huniq (.inl ⟨hb,hk,rfl⟩) (.inl ⟨hb',hk',he.symm⟩),fun b hb hk=>himm (.inl ⟨hb,hk,rfl⟩),em1.old,fun b=>?_,
   ⟨fun b b' n h h' ho ho'=>huniq (.inr ⟨h,ho⟩) (.inr ⟨h',ho'⟩),fun b b' n h h' hk ho he=>?_,fun b n h ho=>himm (.inr ⟨h,ho⟩),fun b n h ho=>?_,fun b i i' h h1 h2 h3=>?_⟩,fun m b i f hm=>?_⟩
  ·rcases hlive hB with ⟨j,hj,h⟩ | ⟨hj,h⟩
   ·obtain ⟨B0,h0,_,hr⟩:=hrn j B h;exact hr b (hν hj) (hκ hj) (hR hj) (em1.blk j B0 h0)
   ·refine RepB.mono (w:=w) (w':=w') (Γ:=Γ) (fun n h=>hx.mi n h) (fun m hm=>hx.fr m (e.old m hm) fun hc=>?_) hA (e.alive ⟨B,h⟩) (fun hk=>hx.fr _ (e.lt ⟨B,h⟩ hk) (hsep hj (.inl ⟨⟨B,h⟩,hk,rfl⟩)))
     (fun t r o hbn=>⟨hR' hj,fun n hn=>hx.fr n (e.rows.lt b n ⟨t,r,o,hbn▸h⟩ hn) (hsep hj (.inr ⟨⟨t,r,o,hbn▸h⟩,hn⟩))⟩) (e.blk b B h)
    obtain ⟨_,c,_,h2⟩:=hwr _ hc;exact e.own_imm h2 hm
  ·rw [hget]
   cases hp:posN nm b with
   | none =>
    simp only;refine Iff.trans ?_ (e.al b);exact ⟨fun h=>h.elim id fun h=>absurd h (qhw hp),.inl⟩
   | some j =>
    simp only;have h1:=qg3 hp;have hj:=qcf h1;rw [← hl] at hj;exact ⟨fun _=>⟨_,wab hj,hnf j _ (wab hj)⟩,fun _=>.inr (wb8 h1)⟩
  ·have hbb:=huniq (.inr ⟨h,ho⟩) (.inl ⟨h',hk,he⟩);subst hbb;obtain ⟨t,r,o,hb⟩:=h
   rcases hlive hb with ⟨j,hj,g⟩ | ⟨hj,g⟩
   ·rw [hO hj] at ho;rw [hκ hj] at hk;rw [hν hj] at he;exact em1.rows.main j j n (hN0 ⟨t,r,o,g⟩) (hL0 g) hk ho he
   ·rw [hO' hj] at ho;rw [hκ' hj] at hk;rw [hν' hj] at he;exact e.rows.main b b n ⟨t,r,o,g⟩ ⟨_,g⟩ hk ho he
  ·rcases hown (.inr ⟨h,ho⟩) with ⟨j,hj,h1⟩ | ⟨hj,h1⟩
   ·exact em1.own_lt h1
   ·exact Nat.lt_of_lt_of_le (e.own_lt h1) hx.size
  ·obtain ⟨t,r,o,hb⟩:=h
   rcases hlive hb with ⟨j,hj,g⟩ | ⟨hj,g⟩
   ·rw [hR hj] at h1 h2 h3;exact em1.rows.one j i i' (hN0 ⟨t,r,o,g⟩) h1 h2 h3
   ·rw [hR' hj] at h1 h2 h3;exact e.rows.one b i i' ⟨t,r,o,g⟩ h1 h2 h3
  ·rw [hget] at hm;split at hm
   ·exact absurd hm (hnw _ _ _ _)
   ·rename_i hpm;obtain ⟨v1,v2,v3⟩:=e.vwA hm;refine ⟨(hA b v2).1,fun t r o hb hi=>?_⟩
    rcases hlive hb with ⟨j,hj,g⟩ | ⟨hj,g⟩
    ·exact absurd ⟨t,r,o,g⟩ (hV m b i f j hm hj)
    ·obtain ⟨_,q1,q2⟩:=hA m v1;rw [q1,q2,hR' hj];exact v3 t r o g hi
end
def SCon.eff0 (c:SCon) (H:List Hs) (base:Nat) (args:List AV):Option Ef :=
 match qiw (qgg c.ins args) H c.ins c.ibl args with
 | some (ρ,p,env)=>match c.pre env,c.F env with
  | some q,some r=>match ρ++List.replicate (c.obl.length-ρ.length) none with
   | ρ'=>match q0f base ρ' with
    | nm=>match nmOk H ρ' nm && (qi0 nm && (Nat.beq nm.length c.obl.length && (plC c.obl.length c.outs && plB c.obl.length c.obl))) with
     | true=>some ⟨p++q,resS (stV nm c.outs c.obl (qbc _ r)),zipH nm (stB nm c.outs c.obl (qbc _ r)),qpg ρ⟩
     | false=>none
  | _,_=>none
 | none=>none
def qho:List TB→Bool
 | []=>false
 | .nest _::_=>true
 | _::l=>qho l
def qpt:Nat→List Hs→List (Nat×Hs)
 | _,[]=>[]
 | n,.view ..::H=>(n,.dead)::qpt (n+1) H
 | n,_::H=>qpt (n+1) H
def qf1 (h:Hs):Hs:=match h with
 | .view ..=>.dead
 | h=>h
def SCon.eff (c:SCon) (H:List Hs) (base:Nat) (args:List AV):Option Ef:=match qho c.obl with
 | false=>c.eff0 H base args
 | true=>match c.eff0 (H.map qf1) base args with
  | some e=>some ⟨e.ob,e.v,qpt 0 H++e.up,allN H⟩
  | none=>none
def qnq:(ts:List Ty)→List AV→Option (Dens ts)
 | [],[]=>some ()
 | t::ts,x::xs=>match asD t x,qnq ts xs with
  | some y,some r=>some (y,r)
  | _,_=>none
 | _,_=>none
def qps (m:Bool):(ts:List Ty)→Dens ts→Dens ts→Dens ts
 | [],_,_=>()
 | _::ts,x,y=>(cond m x.1 y.1,qps m ts x.2 y.2)
theorem qp2:∀ {ts:List Ty} {x y:Dens ts},qps true ts x y=x
 | [],_,_=>rfl
 | t::ts,x,y=>by simp only [qps,wbs,qp2];rfl
theorem qng:∀ {ts:List Ty} {x y:Dens ts},qps false ts x y=y
 | [],_,_=>rfl
 | t::ts,x,y=>by simp only [qps,wbr,qng];rfl
def SCon.skip (c:SCon) (env:List AV):Option (List Prop×Dens (c.outs.flatMap TV.ts++tsB c.obl)) :=
 match qiw (qw6 0 c.ibl.length) (stB (qa3 0 c.ibl.length) c.ins c.ibl env) [] c.obl [] with
 | some (ρ,q,e)=>match idOk 0 c.ibl.length ρ,qnq (c.outs.flatMap TV.ts++tsB c.obl) (q69 (c.outs.flatMap TV.ts)++e) with
  | true,some r=>some (q,r)
  | _,_=>none
 | none=>none
def SCon.effM (c:SCon) (m:Bool) (H:List Hs) (base:Nat) (args:List AV):Option Ef:=match qho c.obl with
 | true=>none
 | false=>match qiw (qgg c.ins args) H c.ins c.ibl args with
  | some (ρ,p,env)=>match c.pre env,c.F env,c.skip env with
    | some q,some r,some (q0,r0)=>match ρ++List.replicate (c.obl.length-ρ.length) none with
      | ρ'=>match q0f base ρ' with
        | nm=>match nmOk H ρ' nm && (qi0 nm && (Nat.beq nm.length c.obl.length && (plC c.obl.length c.outs && plB c.obl.length c.obl))) with
          | true=>some ⟨p++(impP (m=true) q++impP (m=false) q0),resS (stV nm c.outs c.obl (qbc _ (qps m _ r r0))),zipH nm (stB nm c.outs c.obl (qbc _ (qps m _ r r0))),qpg ρ⟩
          | false=>none
    | _,_,_=>none
  | none=>none
def qqd:List AV→Option (Bool×List AV)
 | .cons (.val .bool m) (.cons .nil .nil)::l=>some (m,l)
 | _=>none
def zbt:List AV→List AV
 | .cons _ _::l=>l
 | l=>l
def fitV:TV→AV→Bool
 | .v _,.sl ..=>false
 | .v _,.ref ..=>false
 | .v _,.mref _=>false
 | .v _,.fn ..=>false
 | .v _,_=>true
 | .opt _,_=>true
 | .u,_=>true
 | .sl ..,.sl ..=>true
 | .slf ..,.sl ..=>true
 | .slf ..,.vsl ..=>true
 | .ref ..,.ref ..=>true
 | .mref _,.mref _=>true
 | .fn f _,.fn g _=>Nat.beq f g
 | _,_=>false
def fitC:List TV→List AV→Bool
 | [],[]=>true
 | tv::l,x::xs=>fitV tv x && fitC l xs
 | _,_=>false
def frzB:List TV→List AV→List Nat
 | .v _::l,.sl b _ _ _ _::xs=>b::frzB l xs
 | _::l,_::xs=>frzB l xs
 | _,_=>[]
def frzA (H:List Hs):List TV→List AV→Option (List Prop×List AV)
 | [],[]=>some ([],[])
 | .v t::l,.sl b s i n c::xs=>match rvV H t (.sl b s i n c),frzA H l xs with
  | some (p,y),some (q,ys)=>some (p++q,.val t y::ys)
  | _,_=>none
 | _::l,x::xs=>match frzA H l xs with
  | some (q,ys)=>some (q,x::ys)
  | none=>none
 | _,_=>none
def qoj:List Nat→List (Nat×Hs)
 | []=>[]
 | b::l=>(b,.dead)::qoj l
def SCon.effF (c:SCon) (H:List Hs) (base:Nat) (args:List AV):Option Ef :=
 match frzB c.ins args with
 | K=>match frzA (qds K 0 (H.map qf1)) c.ins args with
  | some (p,ys)=>match c.eff (qao H (qoj K)) base ys with
   | some e=>some ⟨p++e.ob,e.v,qoj K++e.up,K++e.rd⟩
   | none=>none
  | none=>none
def SCon.effC (c:SCon) (H:List Hs) (base:Nat) (args:List AV):Option Ef:=match c.ins,c.ibl,c.outs,c.obl,args with
 | [.v t],[],[.slf 0 s],[.arr t' true],[.sl b s' i n cc]=>match flat t',qax H base with
  | true,true=>match rvV H t (.sl b s' i n cc) with
   | some (p,y)=>match c.pre [.val t y],c.F [.val t y] with
    | some q,some r=>some ⟨p++q,resS (stV [base] c.outs c.obl (qbc _ r)),zipH [base] (stB [base] c.outs c.obl (qbc _ r)),qbk 0 H⟩
    | _,_=>none
   | none=>none
  | _,_=>none
 | _,_,_,_,_=>none
def SCon.isCl (c:SCon) (args:List AV):Bool:=match c.ins,c.ibl,c.outs,c.obl,args with
 | [.v _],[],[.slf 0 _],[.arr t' true],[.sl ..]=>flat t'
 | _,_,_,_,_=>false
def SCon.effCF (c:SCon) (H:List Hs) (base:Nat) (args:List AV):Option Ef:=match c.isCl args with
 | true=>c.effC H base args
 | false=>c.effF H base args
def fitW:TV→AV→Bool
 | .v _,.sl ..=>true
 | tv,x=>fitV tv x
def fitK:List TV→List AV→Bool
 | [],[]=>true
 | tv::l,x::xs=>fitW tv x && fitK l xs
 | _,_=>false
def spS:List SCon→List Con→Spec
 | [],cs,f,H,base,args=>spOf cs f H base args
 | c::ss,cs,f,H,base,args=>match Nat.beq c.f f && fitC c.ins (zbt args) with
  | true=>match qqd args with
   | some (m,l)=>match c.effM m H base l with
    | some e=>e
    | none=>.fail
   | none=>match c.eff H base args with
    | some e=>e
    | none=>.fail
  | false=>match Nat.beq c.f f && (qyy args && fitK c.ins args) with
   | true=>match c.effCF H base args with
    | some e=>e
    | none=>.fail
   | false=>spS ss cs f H base args
section
variable {w:World} {Γ:Cx} {H H':List Hs}
theorem SCon.eff0_some {c:SCon} {base:Nat} {args:List AV} {e:Ef} (h:c.eff0 H base args=some e):∃ ρ p env q r nm,qiw (qgg c.ins args) H c.ins c.ibl args=some (ρ,p,env)∧c.pre env=some q∧c.F env=some r ∧
  nm=q0f base (ρ++List.replicate (c.obl.length-ρ.length) none)∧nmOk H (ρ++List.replicate (c.obl.length-ρ.length) none) nm=true∧qi0 nm=true∧nm.length=c.obl.length∧plC c.obl.length c.outs=true∧plB c.obl.length c.obl=true ∧
  e=⟨p++q,resS (stV nm c.outs c.obl (qbc _ r)),zipH nm (stB nm c.outs c.obl (qbc _ r)),qpg ρ⟩:=by
 unfold SCon.eff0 at h;split at h
 ·rename_i ρ p env hr;split at h
  ·rename_i q r h1 h2;simp only at h;split at h
   ·rename_i hh;cases h;simp only [wbc] at hh;exact ⟨ρ,p,env,q,r,_,hr,h1,h2,rfl,hh.1,hh.2.1,waj hh.2.2.1,hh.2.2.2.1,hh.2.2.2.2,rfl⟩
   ·cases h
  ·cases h
 ·cases h
theorem qek {nm:List Nat} {tvs:List TV} {bl:List TB} {env:List AV}:(stB nm tvs bl env).length=bl.length:=qb1
theorem qjc {nm lens:List Nat}:∀ {bl:List TB} {env:List AV} {j:Nat},qho bl=false→¬ Nest (qbj nm lens bl env) j
 | [],_,_,_,⟨t,r,o,h⟩=>by simp [qbj] at h
 | tb::bl,env,0,hn,⟨t,r,o,h⟩=>by
  simp only [qbj,wbg,wa8] at h;cases tb<;>simp [qdf,qho] at h hn
 | tb::bl,env,j+1,hn,⟨t,r,o,h⟩=>by
  simp only [qbj,wbd] at h;have hn':qho bl=false:=by cases tb<;>simp [qho] at hn ⊢<;>exact hn
  exact qjc hn' ⟨t,r,o,h⟩
theorem qr2 {P:Program} {c:SCon} (hc:c.Ok P) (hvv:qho c.obl=false∨∀ (m b i:Nat) (f:Bool),H[m]?≠some (.view b i f)) {base:Nat} {args:List AV} {e:Ef} (he:c.eff0 H base args=some e) (hob:allP e.ob) (em:EmbH Γ H w) {vs:List Value} (hf:Fa w Γ args vs) :
  Calls P c.f vs.toArray w fun en w'=>∃ v Γ',en=.returned v∧Ext Γ H w Γ' (qao H e.up) w'∧EmbH Γ' (qao H e.up) w'∧Ra w' Γ' e.v v:=by
 obtain ⟨ρ,p,env,q,r,nm,hr,h1,h2,hnm0,hnm,hnd,hlen,hp1,hp2,rfl⟩:=SCon.eff0_some he;obtain ⟨hp,hq⟩:=qae.1 hob;obtain ⟨k1,k2,k3,k4,k5⟩:=qj9 em hr hp;refine Calls.mono (hc.2 _ w env q r vs k3 k2 h1 h2 hq (k5 vs hf)) fun en w' hen=>?_
 obtain ⟨v,Γ1,rfl,hx,em1,hv⟩:=hen;have hI:∀ b,Γ1.I b→(Γ.back Γ1 nm).I b:=fun _ h=>h
 have hV:∀ (m b i:Nat) (f:Bool) (j:Nat),H[m]?=some (.view b i f)→posN nm b=some j→¬ Nest (stB nm c.outs c.obl (qbc _ r)) j:=fun m b i f j hm _ hN=>by
  rcases hvv with h | h
  ·exact qjc h hN
  ·exact h m b i f hm
 have hrr:∀ j,j<c.obl.length→(Γ.back Γ1 nm).A (nmAt nm j)∧(Γ.back Γ1 nm).ν (nmAt nm j)=Γ1.ν (nmAt (qa3 0 c.obl.length) j)∧(Γ.back Γ1 nm).κ (nmAt nm j)=Γ1.κ (nmAt (qa3 0 c.obl.length) j):=fun j hj=>by
  have hj':j<nm.length:=by omega
  have hg:=wab hj';rw [qsm hg,qar hj,wbj];have hp:=qs2 hnd hg;exact ⟨.inr (wav hj'),by simp only [Cx.back,hp],by simp only [Cx.back,hp]⟩
 have hve:VE (qbc _ r):=qst.ve;obtain ⟨a1,a2⟩:=zb2 em hnm hnd k4 hx em1 (Ho:=stB nm c.outs c.obl (qbc _ r)) (by rw [qek,hlen]) (fun j x hx=>qfk hx) (fun j B hB=>by
  obtain ⟨B0,g1,g3,g2⟩:=qpp (w:=w') hI hrr hp2 hve.drop j B hB;exact ⟨B0,g1,g3,fun b' hν hκ hR hb=>g2 j b' hν hκ hR hb⟩) (fun j c i f=>qjn hp2) hV
 refine ⟨v,_,rfl,a1,a2,?_⟩;obtain ⟨g1,g2⟩:=qnc (w:=w') (lens:=stL c.obl c.outs (qbc _ r)) hI hrr hp1 hve;exact zay g1 g2 hv
theorem qpc:∀ {H K:List Hs},qao (K++H) (qpt K.length H)=K++H.map qf1
 | [],K=>by simp [qpt,qao]
 | h::H,K=>by
  have ih:∀ {K:List Hs},qao (K++H) (qpt K.length H)=K++H.map qf1:=qpc (H:=H);have skip:∀ h',qao (K++h'::H) (qpt (K.length+1) H)=K++h'::H.map qf1:=fun h'=>by
   have:=ih (K:=K++[h']);simpa using this
  cases h with
  | view b' i f =>
   simp only [qpt,wbv,qf1,qao];rw [List.set_append_right _ _ (wae _),Nat.sub_self,List.set_cons_zero];exact skip .dead
  | free=>exact skip _
  | dead=>exact skip _
  | live B=>exact skip _
theorem q6r:qao H (qpt 0 H)=H.map qf1:=qpc (K:=[])
theorem qd1 {d:Nat} {B:Blk}:(H.map qf1)[d]?=some (.live B)↔H[d]?=some (.live B):=by
 rw [waq]
 cases h:H[d]? with
 | none=>simp
 | some x=>cases x<;>simp [qf1]
theorem qla {d b i:Nat} {f:Bool}:(H.map qf1)[d]?≠some (.view b i f):=by
 rw [waq]
 cases h:H[d]? with
 | none=>simp
 | some x=>cases x<;>simp [qf1]
theorem EmbH.killAs (e:EmbH Γ H w):EmbH Γ (H.map qf1) w∧Ext Γ H w Γ (H.map qf1) w:=by
 refine e.stepP (fun _=>False) rfl (fun _ h=>⟨h,rfl,rfl⟩) (fun d=>?_) (fun _ _ _=>rfl) (fun _ h=>h.elim) some (fun q hq h0=>.inl ⟨q,rfl,?_,h0,rfl⟩) (fun _ _ _ _ _ _ h=>by cases h;rfl)
  (fun d B hd=>.inr ⟨qd1.1 hd,fun _=>id,fun _=>⟨rfl,fun _ _=>id⟩⟩) (e.vw_keep (fun _ h=>⟨h,rfl,rfl⟩) (fun m' b' i' f' hm'=>absurd hm' qla) fun d t2 rows2 ho2 _ hd=>⟨rfl,t2,rows2,ho2,qd1.1 hd,wae _⟩) (wae _) rfl rfl
 ·rw [e.al,waq]
  cases h:H[d]? with
  | none=>simp
  | some x=>cases x<;>simp [qf1]
 ·obtain ⟨d,oo⟩:=q
  cases oo with
  | none=>obtain ⟨B,h⟩:=hq;exact ⟨B,qd1.1 h⟩
  | some j=>obtain ⟨t,r,o,h⟩:=hq;exact ⟨t,r,o,qd1.1 h⟩
theorem q28 {P:Program} {c:SCon} (hc:c.Ok P) {base:Nat} {args:List AV} {e:Ef} (he:c.eff H base args=some e) (hob:allP e.ob) (em:EmbH Γ H w) {vs:List Value} (hf:Fa w Γ args vs) :
  Calls P c.f vs.toArray w fun en w'=>∃ v Γ',en=.returned v∧Ext Γ H w Γ' (qao H e.up) w'∧EmbH Γ' (qao H e.up) w'∧Ra w' Γ' e.v v:=by
 unfold SCon.eff at he
 cases hn:qho c.obl with
 | false=>rw [hn] at he;exact qr2 hc (.inl hn) he hob em hf
 | true =>
  rw [hn] at he
  cases h0:c.eff0 (H.map qf1) base args with
  | none=>rw [h0] at he;cases he
  | some e0 =>
   rw [h0] at he;cases he;obtain ⟨k1,k2⟩:=em.killAs;refine Calls.mono (qr2 hc (.inr fun m b i f=>qla) h0 hob k1 hf) fun en w' hen=>?_
   obtain ⟨v,Γ',g1,g2,g3,g4⟩:=hen;have hup:qao H (qpt 0 H++e0.up)=qao (H.map qf1) e0.up:=by rw [qgk,q6r]
   rw [hup];exact ⟨v,Γ',g1,k2.trans g2,g3,g4⟩
theorem SCon.effM_some {c:SCon} {m:Bool} {base:Nat} {args:List AV} {e:Ef} (h:c.effM m H base args=some e):qho c.obl=false∧∃ ρ p env q r q0 r0 nm,qiw (qgg c.ins args) H c.ins c.ibl args=some (ρ,p,env)∧c.pre env=some q∧c.F env=some r∧c.skip env=some (q0,r0) ∧
  nm=q0f base (ρ++List.replicate (c.obl.length-ρ.length) none)∧nmOk H (ρ++List.replicate (c.obl.length-ρ.length) none) nm=true∧qi0 nm=true∧nm.length=c.obl.length∧plC c.obl.length c.outs=true∧plB c.obl.length c.obl=true ∧
  e=⟨p++(impP (m=true) q++impP (m=false) q0),resS (stV nm c.outs c.obl (qbc _ (qps m _ r r0))),zipH nm (stB nm c.outs c.obl (qbc _ (qps m _ r r0))),qpg ρ⟩:=by
 unfold SCon.effM at h
 cases hn:qho c.obl with
 | true=>rw [hn] at h;cases h
 | false =>
 rw [hn] at h;refine ⟨rfl,?_⟩;simp only at h;split at h
 ·rename_i ρ p env hr;split at h
  ·rename_i q r q0 r0 h1 h2 h3;split at h
   ·rename_i hh;cases h;simp only [wbc] at hh;exact ⟨ρ,p,env,q,r,q0,r0,_,hr,h1,h2,h3,rfl,hh.1,hh.2.1,waj hh.2.2.1,hh.2.2.2.1,hh.2.2.2.2,rfl⟩
   ·cases h
  ·cases h
 ·cases h
theorem qnw:∀ {ts:List Ty} {env:List AV} {r:Dens ts},qnq ts env=some r→env=qbc ts r
 | [],[],r,_=>rfl
 | t::ts,x::xs,r,h=>by
  simp only [qnq] at h;split at h
  ·rename_i y r' h1 h2;cases h;have:x=.val t y:=by
    unfold asD at h1;split at h1
    ·obtain ⟨rfl,rfl⟩:=qaq h1;rfl
    ·cases h1
   rw [qnw h2,this];rfl
  ·cases h
 | [],_::_,_,h=>by simp [qnq] at h
 | _::_,[],_,h=>by simp [qnq] at h
theorem q80 {c:SCon} {env:List AV} {q0:List Prop} {r0:Dens (c.outs.flatMap TV.ts++tsB c.obl)} (h:c.skip env=some (q0,r0)) (hq:allP q0) {Γ1:Cx} (em:EmbH Γ1 (stB (qa3 0 c.ibl.length) c.ins c.ibl env) w) :
  ∃ Γ2,Ext Γ1 (stB (qa3 0 c.ibl.length) c.ins c.ibl env) w Γ2 (stB (qa3 0 c.obl.length) c.outs c.obl (qbc _ r0)) w∧EmbH Γ2 (stB (qa3 0 c.obl.length) c.outs c.obl (qbc _ r0)) w:=by
 unfold SCon.skip at h;split at h
 ·rename_i ρ q e hr;split at h
  ·rename_i r hid hd;cases h;obtain ⟨k1,k2,k3,k4,k5⟩:=qj9 em hr hq;have he:=qnw hd;have hst:stB (qa3 0 c.obl.length) c.outs c.obl (qbc _ r0)=stB (qa3 0 c.obl.length) [] c.obl e:=by
    have hdr:qgv (cntC c.outs) (qbc _ r0)=e:=by
     rw [← he];exact qda ((qrm (ts:=c.outs.flatMap TV.ts)).length.trans qnk)
    simp only [stB,stL,hdr,cntC,qgv]
   rw [hst];refine ⟨Γ1.head 0 ρ noA,⟨fun _ _ _=>rfl,wae _,rfl,rfl,fun n hn=>?_,fun n hn=>.inl hn,fun n hn=>hn,fun b hb=>?_⟩,k3⟩
   ·obtain ⟨j,c',_,m2⟩:=k4 n hn;exact .inl m2.wr
   ·have hlt:b<c.ibl.length:=by
     obtain ⟨x,hx,_⟩:=(em.al b).1 hb;have:=qbi hx
     rwa [qek] at this
    have hid':=qki hid b hlt;rw [wbj] at hid';obtain ⟨f1,f2,f3⟩:=(Nm.head (Γ:=Γ1) (len:=0) (ρ:=ρ) (A0:=noA)).so b b hid';rw [qar (qcf hid'),wbj] at f1 f2 f3;exact ⟨f1,f2,f3⟩
  ·cases h
 ·cases h
theorem q6c {P:Program} {c:SCon} (hc:c.Ok P) {m:Bool} {base:Nat} {args:List AV} {e:Ef} (he:c.effM m H base args=some e) (hob:allP e.ob) :
  (m=true→∀ (Γ:Cx) (w:World) (vs:List Value),EmbH Γ H w→Fa w Γ args vs→Calls P c.f vs.toArray w fun en w'=>∃ v Γ',en=.returned v∧Ext Γ H w Γ' (qao H e.up) w'∧EmbH Γ' (qao H e.up) w'∧Ra w' Γ' e.v v) ∧
  (m=false→∀ (Γ:Cx) (w:World),EmbH Γ H w→∃ Γ',Ext Γ H w Γ' (qao H e.up) w∧EmbH Γ' (qao H e.up) w):=by
 obtain ⟨hnt,ρ,p,env,q,r,q0,r0,nm,hr,h1,h2,h3,hnm0,hnm,hnd,hlen,hp1,hp2,rfl⟩:=SCon.effM_some he;obtain ⟨hp,hq⟩:=qae.1 hob;obtain ⟨hq,hq0⟩:=qae.1 hq;refine ⟨fun hm Γ w vs em hf=>?_,fun hm Γ w em=>?_⟩
 ·subst hm;have hq:=qf4.1 hq rfl;rw [qp2];have he':c.eff0 H base args=some ⟨p++q,resS (stV nm c.outs c.obl (qbc _ r)),zipH nm (stB nm c.outs c.obl (qbc _ r)),qpg ρ⟩:=by
   unfold SCon.eff0;rw [hr];simp only [h1,h2];rw [← hnm0];have hb:(Nat.beq nm.length c.obl.length)=true:=by rw [hlen];exact Nat.beq_refl _
   simp only [hnm,hnd,hb,hp1,hp2,wbz]
  exact qr2 hc (.inl hnt) he' (qae.2 ⟨hp,hq⟩) em hf
 ·subst hm;have hq0:=qf4.1 hq0 rfl;rw [qng];obtain ⟨k1,k2,k3,k4,k5⟩:=qj9 em hr hp;obtain ⟨Γ1,hx,em1⟩:=q80 h3 hq0 k3;have hI:∀ b,Γ1.I b→(Γ.back Γ1 nm).I b:=fun _ h=>h
  have hrr:∀ j,j<c.obl.length→(Γ.back Γ1 nm).A (nmAt nm j)∧(Γ.back Γ1 nm).ν (nmAt nm j)=Γ1.ν (nmAt (qa3 0 c.obl.length) j)∧(Γ.back Γ1 nm).κ (nmAt nm j)=Γ1.κ (nmAt (qa3 0 c.obl.length) j):=fun j hj=>by
   have hj':j<nm.length:=by omega
   have hg:=wab hj';rw [qsm hg,qar hj,wbj];have hp:=qs2 hnd hg;exact ⟨.inr (wav hj'),by simp only [Cx.back,hp],by simp only [Cx.back,hp]⟩
  have hve:VE (qbc _ r0):=qst.ve;exact ⟨_,zb2 em hnm hnd k4 hx em1 (Ho:=stB nm c.outs c.obl (qbc _ r0)) (by rw [qek,hlen]) (fun j x hx=>qfk hx) (fun j B hB=>by
   obtain ⟨B0,g1,g3,g2⟩:=qpp (w:=w) hI hrr hp2 hve.drop j B hB;exact ⟨B0,g1,g3,fun b' hν hκ hR hb=>g2 j b' hν hκ hR hb⟩) (fun j c i f=>qjn hp2) (fun m b i f j hm _ hN=>qjc hnt hN)⟩
theorem qse:∀ {K:List Nat},qoj K=K.map fun b=>(b,.dead)
 | []=>rfl
 | b::K=>by rw [qoj,qse];rfl
theorem qvv:∀ {tvs:List TV} {args:List AV} {vs:List Value},Fa w Γ args vs→∀ b∈frzB tvs args,Γ.A b
 | [],args,vs,hf,b,hb=>by cases args<;>simp [frzB] at hb
 | tv::l,[],vs,hf,b,hb=>by cases tv<;>simp [frzB] at hb
 | tv::l,x::xs,[],hf,b,hb=>hf.elim
 | tv::l,x::xs,v::vs,hf,b,hb=>by
  by_cases hh:∃ t b' s i n c,tv=.v t∧x=.sl b' s i n c
  ·obtain ⟨t,b',s,i,n,c,rfl,rfl⟩:=hh;simp only [frzB,List.mem_cons] at hb
   rcases hb with rfl | hb
   ·exact (qcl.1 hf.1).1
   ·exact qvv hf.2 b hb
  ·have e:frzB (tv::l) (x::xs)=frzB l xs:=by
    cases tv<;>cases x<;>first | rfl | (exact absurd ⟨_,_,_,_,_,_,rfl,rfl⟩ hh)
   rw [e] at hb;exact qvv hf.2 b hb
theorem qqe {tv:TV} {l:List TV} {x:AV} {xs:List AV} (hh:¬ ∃ t b' s i n c,tv=.v t∧x=.sl b' s i n c):frzA H (tv::l) (x::xs)=match frzA H l xs with
  | some (q,ys)=>some (q,x::ys)
  | none=>none:=by
 cases tv<;>cases x<;>first | rfl | (exact absurd ⟨_,_,_,_,_,_,rfl,rfl⟩ hh)
theorem qlm (em:BlkOk Γ H w) {Γz:Cx} (hI:∀ n,Jf Γ H n↔Γz.I n) (hA:∀ b,Γ.A b→Γz.A b∧Γz.ν b=Γ.ν b∧Γz.κ b=Γ.κ b):∀ {tvs:List TV} {args ys:List AV} {vs:List Value} {p:List Prop},frzA H tvs args=some (p,ys)→allP p→Fa w Γ args vs→Fa w Γz ys vs
 | [],[],ys,vs,p,h,_,hf=>by
  simp only [frzA,wa8,wba] at h;obtain ⟨_,rfl⟩:=h
  cases vs with
  | nil=>exact trivial
  | cons=>exact hf.elim
 | [],_::_,ys,vs,p,h,_,_=>by simp [frzA] at h
 | tv::l,[],ys,vs,p,h,_,_=>by cases tv<;>simp [frzA] at h
 | tv::l,x::xs,ys,[],p,h,_,hf=>hf.elim
 | tv::l,x::xs,ys,v::vs,p,h,hp,hf=>by
  by_cases hh:∃ t b' s i n c,tv=.v t∧x=.sl b' s i n c
  ·obtain ⟨t,b',s,i,n,c,rfl,rfl⟩:=hh;simp only [frzA] at h;split at h
   ·rename_i p1 y q ys' h1 h2;cases h;obtain ⟨hp1,hp2⟩:=qae.1 hp;refine ⟨Ra_val.2 ?_,qlm em hI hA h2 hp2 hf.2⟩;obtain ⟨cs,c1,c2⟩:=qgw em h1 hp1 hf.1;exact ⟨cs,RepC.mono (fun b hb=>(hI b).1 hb) (fun _ _=>rfl) _ _ _ c1,c2⟩
   ·cases h
  ·rw [qqe hh] at h;split at h
   ·rename_i q ys' h2;cases h;exact ⟨Rp.mono (fun b hb=>(hI b).1 (.inl hb)) (fun _ _=>rfl) hA _ _ hf.1,qlm em hI hA h2 hp hf.2⟩
   ·cases h
theorem SCon.effF_some {c:SCon} {base:Nat} {args:List AV} {e:Ef} (h:c.effF H base args=some e):∃ p ys e0,frzA (qds (frzB c.ins args) 0 (H.map qf1)) c.ins args=some (p,ys)∧c.eff (qao H (qoj (frzB c.ins args))) base ys=some e0 ∧
  e=⟨p++e0.ob,e0.v,qoj (frzB c.ins args)++e0.up,frzB c.ins args++e0.rd⟩:=by
 simp only [SCon.effF] at h;split at h
 ·rename_i p ys h1;split at h
  ·rename_i e0 h2;cases h;exact ⟨p,ys,e0,h1,h2,rfl⟩
  ·cases h
 ·cases h
theorem q90 {K:List Nat} {n:Nat}:Jf Γ (qds K 0 (H.map qf1)) n↔Jf Γ (qds K 0 H) n:=by
 have hl:∀ {b:Nat} {B:Blk},(qds K 0 (H.map qf1))[b]?=some (.live B)↔(qds K 0 H)[b]?=some (.live B):=fun {b B}=>by
  constructor
  ·intro h;obtain ⟨h1,h2⟩:=qbg h;rw [qdm,qd1.1 h1];simp [qiq.2 h2]
  ·intro h;obtain ⟨h1,h2⟩:=qbg h;rw [qdm,qd1.2 h1];simp [qiq.2 h2]
 refine or_congr Iff.rfl ⟨fun h=>h.sub fun b B h=>hl.1 h,fun h=>h.sub fun b B h=>hl.2 h⟩
theorem q6p {P:Program} {c:SCon} (hc:c.Ok P) {base:Nat} {args:List AV} {e:Ef} (he:c.effF H base args=some e) (hob:allP e.ob) (em:EmbH Γ H w) {vs:List Value} (hf:Fa w Γ args vs) :
  Calls P c.f vs.toArray w fun en w'=>∃ v Γ',en=.returned v∧Ext Γ H w Γ' (qao H e.up) w'∧EmbH Γ' (qao H e.up) w'∧Ra w' Γ' e.v v:=by
 obtain ⟨p,ys,e0,h1,h2,rfl⟩:=SCon.effF_some he;obtain ⟨hp,hq⟩:=qae.1 hob;generalize hK:frzB c.ins args=K at h1 h2 ⊢;have hKA:∀ b∈K,Γ.A b:=fun b hb=>qvv hf b (by rw [hK];exact hb)
 obtain ⟨x1,em1⟩:=qop (K:=K) (I:=Jf Γ (qds K 0 H)) em hKA (fun _ _=>rfl) (wae _) rfl rfl (fun _ h=>.inl h) (fun n hn=>.inl hn) (fun n hn=>by
  rcases hn with h | hw
  ·exact em.old n h
  ·obtain ⟨c,hc⟩:=q2g (hw.sub fun _ _ h=>(qbg h).1)
   exact em.own_lt hc)
 rw [← qse] at x1 em1;have hfz:Fa w { Γ with I:=Jf Γ (qds K 0 H) } ys vs:=qlm (Γz:={ Γ with I:=Jf Γ (qds K 0 H) }) (qro (K:=K) em.killAs.1).blkOk (fun n=>q90) (fun b hb=>⟨hb,rfl,rfl⟩) h1 hp hf
 refine Calls.mono (q28 hc h2 hq em1 hfz) fun en w' hen=>?_
 obtain ⟨v,Γ',rfl,g1,g2,g3⟩:=hen;simp only [qgk];exact ⟨v,Γ',rfl,x1.trans g1,g2,g3⟩
theorem SCon.effC_some {c:SCon} {base:Nat} {args:List AV} {e:Ef} (h:c.effC H base args=some e):∃ t s t' b s' i n cc p y q r,c.ins=[.v t]∧c.ibl=[]∧c.outs=[.slf 0 s]∧c.obl=[.arr t' true]∧args=[.sl b s' i n cc]∧flat t'=true∧qax H base=true∧rvV H t (.sl b s' i n cc)=some (p,y) ∧
  c.pre [.val t y]=some q∧c.F [.val t y]=some r∧e=⟨p++q,resS (stV [base] c.outs c.obl (qbc _ r)),zipH [base] (stB [base] c.outs c.obl (qbc _ r)),qbk 0 H⟩:=by
 unfold SCon.effC at h;split at h
 ·rename_i t s t' b s' i n cc h1 h2 h3 h4;split at h
  ·rename_i h5 h6;split at h
   ·rename_i p y h7;split at h
    ·rename_i q r h8 h9;cases h;exact ⟨t,s,t',b,s',i,n,cc,p,y,q,r,h1,h2,h3,h4,rfl,h5,h6,h7,h8,h9,rfl⟩
    ·cases h
   ·cases h
  ·cases h
 ·cases h
theorem q5p {P:Program} {c:SCon} (hc:c.Ok P) {base:Nat} {args:List AV} {e:Ef} (he:c.effC H base args=some e) (hob:allP e.ob) (em:EmbH Γ H w) {vs:List Value} (hf:Fa w Γ args vs) :
  Calls P c.f vs.toArray w fun en w'=>∃ v Γ',en=.returned v∧Ext Γ H w Γ' (qao H e.up) w'∧EmbH Γ' (qao H e.up) w'∧Ra w' Γ' e.v v:=by
 obtain ⟨t,s,t',b,s',i,n,cc,p,y,q,r,h1,h2,h3,h4,rfl,hfl,hfr,hrv,hpre,hF,rfl⟩:=SCon.effC_some he;obtain ⟨f,ins,ibl,outs,obl,pre,F⟩:=c;simp only at h1 h2 h3 h4 hpre hF hob;subst h1;subst h2;subst h3;subst h4;obtain ⟨hp,hq⟩:=qae.1 hob;obtain ⟨v,rfl,hv⟩:=qfr hf;have hy:Ra w (Γ.freeze H) (.val t y) v:=Ra_val.2 (qgw em.blkOk hrv hp hv);have hk:=qbp hfr;refine Calls.mono (hc.2 (Γ.freeze H) w [.val t y] q r [v] (qim em) ⟨⟨y,rfl⟩,trivial⟩ hpre hF hq ⟨hy,trivial⟩) fun en w' hen=>?_
 obtain ⟨v',Γ1,rfl,hx,em1,hr⟩:=hen;have hfrz:∀ n,n<w.heap.size→w'.heap[n]?=w.heap[n]?:=fun n hn=>hx.fr n hn qmm
 obtain ⟨xs,u⟩:=r;have e1:stB (qa3 0 1) [TV.slf 0 s] [TB.arr t' true] (qbc (List.flatMap TV.ts [TV.slf 0 s]++tsB [TB.arr t' true]) (xs,u))=[.live (.arr t' xs true)]:=congrArg (fun l=>[Hs.live (Blk.arr t' l true)]) (qbm (t:=t') (ys:=xs))
 have e2:stB [base] [TV.slf 0 s] [TB.arr t' true] (qbc (List.flatMap TV.ts [TV.slf 0 s]++tsB [TB.arr t' true]) (xs,u))=[.live (.arr t' xs true)]:=congrArg (fun l=>[Hs.live (Blk.arr t' l true)]) (qbm (t:=t') (ys:=xs))
 have e3:resS (stV (qa3 0 1) [TV.slf 0 s] [TB.arr t' true] (qbc (List.flatMap TV.ts [TV.slf 0 s]++tsB [TB.arr t' true]) (xs,u)))=.sl 0 s 0 (List.length (α:=Den t') xs) none:=congrArg (fun l=>AV.sl 0 s 0 (List.length (α:=Den t') l) none) (qbm (t:=t') (ys:=xs))
 have e4:resS (stV [base] [TV.slf 0 s] [TB.arr t' true] (qbc (List.flatMap TV.ts [TV.slf 0 s]++tsB [TB.arr t' true]) (xs,u)))=.sl base s 0 (List.length (α:=Den t') xs) none:=congrArg (fun l=>AV.sl base s 0 (List.length (α:=Den t') l) none) (qbm (t:=t') (ys:=xs))
 have hx':Ext (Γ.freeze H) [] w Γ1 [.live (.arr t' xs true)] w':=by rw [← e1];exact hx
 have em1':EmbH Γ1 [.live (.arr t' xs true)] w':=by rw [← e1];exact em1
 have hr':Ra w' Γ1 (.sl 0 s 0 (List.length (α:=Den t') xs) none) v':=by rw [← e3];exact hr
 have hL:Live [.live (.arr t' xs true)] 0:=⟨_,rfl⟩;have hB:=em1'.blk 0 _ rfl;have hB':RepB w' (Γ.new base (Γ1.ν 0) (Γ1.κ 0)) base (.arr t' xs true):=by
  simp only [RepB,Cx.new,qap] at hB ⊢;obtain ⟨b1,b2,b3⟩:=hB;refine ⟨b1,b2,fun hk=>?_⟩
  obtain ⟨c,el,g1,g2,g3⟩:=b3 hk;refine ⟨c,el,g1,g2,fun i x hx=>?_⟩
  obtain ⟨cs,m1,m2⟩:=g3 i x hx;exact ⟨cs,qm4 hfl m1,m2⟩
 obtain ⟨g1,g2⟩:=em.fresh (w':=w') (N:=Γ1.ν 0) (C:=Γ1.κ 0) hk (fun h0=>⟨by
  rcases hx'.wr (Γ1.ν 0) (.inl ⟨0,hL,h0,rfl⟩) with h | h
  ·exact absurd h qmm
  ·exact h,em1'.lt hL h0⟩) hfrz hx.size hx.os hx.out hB' (by intro _ _ _ h;cases h)
 have hup:qao H (zipH [base] (stB [base] [TV.slf 0 s] [TB.arr t' true] (qbc (List.flatMap TV.ts [TV.slf 0 s]++tsB [TB.arr t' true]) (xs,u))))=H.set base (.live (.arr t' xs true)):=by rw [e2];rfl
 refine ⟨v',Γ.new base (Γ1.ν 0) (Γ1.κ 0),rfl,?_,?_,?_⟩
 ·show Ext Γ H w _ (qao H (zipH [base] (stB [base] [TV.slf 0 s] [TB.arr t' true] (qbc (List.flatMap TV.ts [TV.slf 0 s]++tsB [TB.arr t' true]) (xs,u))))) w';rw [hup];exact g2
 ·show EmbH _ (qao H (zipH [base] (stB [base] [TV.slf 0 s] [TB.arr t' true] (qbc (List.flatMap TV.ts [TV.slf 0 s]++tsB [TB.arr t' true]) (xs,u))))) w';rw [hup];exact g1
 ·show Ra w' _ (resS (stV [base] [TV.slf 0 s] [TB.arr t' true] (qbc (List.flatMap TV.ts [TV.slf 0 s]++tsB [TB.arr t' true]) (xs,u)))) v';rw [e4];obtain ⟨_,ad,cap,k1,k2,k3,k4⟩:=qcl.1 hr';exact qcl.2 ⟨.inr rfl,ad,cap,k1,by simpa [Cx.new,upd] using k2,by simpa [Cx.new,upd] using k3,k4⟩
theorem q06 {P:Program} {c:SCon} (hc:c.Ok P) {base:Nat} {args:List AV} {e:Ef} (he:c.effCF H base args=some e) (hob:allP e.ob) (em:EmbH Γ H w) {vs:List Value} (hf:Fa w Γ args vs) :
  Calls P c.f vs.toArray w fun en w'=>∃ v Γ',en=.returned v∧Ext Γ H w Γ' (qao H e.up) w'∧EmbH Γ' (qao H e.up) w'∧Ra w' Γ' e.v v:=by
 unfold SCon.effCF at he;split at he
 ·exact q5p hc he hob em hf
 ·exact q6p hc he hob em hf
theorem qfl {j b:Nat}:∀ {l r:List (Nat×Nat)},qjx j l=some b→qjx j (l++r)=some b
 | [],r,h=>by simp [qjx] at h
 | p::l,r,h=>by
  simp only [wbt,qjx] at h ⊢;split
  ·rename_i hh;rw [if_pos hh] at h;exact h
  ·rename_i hh;rw [if_neg hh] at h;exact qfl h
theorem qfj:∀ {bl:List TB} {j:Nat} {acc:List (Nat×Nat)},∃ t,qdk H j bl acc=acc++t
 | [],j,acc=>⟨[],by simp [qdk]⟩
 | tb::bl,j,acc=>by
  cases tb with
  | cells l =>
   simp only [qdk];split
   ·split
    ·rename_i vs _;obtain ⟨t,ht⟩:=qfj (bl:=bl) (j:=j+1) (acc:=acc++qgg l vs);exact ⟨qgg l vs++t,by rw [ht,way]⟩
    ·exact ⟨[],by simp⟩
   ·exact ⟨[],by simp⟩
  | mix l t =>
   simp only [qdk];split
   ·split
    ·rename_i vs _ _ _;obtain ⟨t,ht⟩:=qfj (bl:=bl) (j:=j+1) (acc:=acc++qgg l vs);exact ⟨qgg l vs++t,by rw [ht,way]⟩
    ·exact ⟨[],by simp⟩
   ·exact ⟨[],by simp⟩
  | view k =>
   simp only [qdk];split
   ·split
    ·rename_i c _ _ _;obtain ⟨t,ht⟩:=qfj (bl:=bl) (j:=j+1) (acc:=acc++[(k,c)]);exact ⟨[(k,c)]++t,by rw [ht,way]⟩
    ·exact ⟨[],by simp⟩
   ·exact ⟨[],by simp⟩
  | _=>simp only [qdk];exact qfj
theorem qfq:∀ {bl:List TB} {j:Nat} {acc:List (Nat×Nat)},(∀ i b,j≤i→i<j+bl.length→qjx i (qdk H j bl acc)=some b→H'[b]?=H[b]?)→qdk H' j bl acc=qdk H j bl acc
 | [],j,acc,_=>by simp only [qdk]
 | tb::bl,j,acc,h=>by
  cases tb with
  | cells l =>
   simp only [qdk] at h ⊢
   cases hl:qjx j acc with
   | none=>rfl
   | some b =>
    have hb:H'[b]?=H[b]?:=by
     refine h j b (wae _) (by simp) ?_
     rw [hl];simp only;split
     ·rename_i vs _;obtain ⟨t,ht⟩:=qfj (H:=H) (bl:=bl) (j:=j+1) (acc:=acc++qgg l vs);rw [ht];exact qfl (qfl hl)
     ·exact hl
    simp only [hl] at h;simp only [qaw hb];split
    ·rename_i vs hvs;rw [hvs] at h;exact qfq fun i b h1 h2 h3=>h i b (by omega) (by simp only [wbf];omega) h3
    ·rfl
  | mix l t =>
   simp only [qdk] at h ⊢
   cases hl:qjx j acc with
   | none=>rfl
   | some b =>
    have hb:H'[b]?=H[b]?:=by
     refine h j b (wae _) (by simp) ?_
     rw [hl];simp only;split
     ·rename_i vs _ _ _;obtain ⟨t,ht⟩:=qfj (H:=H) (bl:=bl) (j:=j+1) (acc:=acc++qgg l vs);rw [ht];exact qfl (qfl hl)
     ·exact hl
    simp only [hl] at h;simp only [qaw hb];split
    ·rename_i vs _ _ hvs;rw [hvs] at h;exact qfq fun i b h1 h2 h3=>h i b (by omega) (by simp only [wbf];omega) h3
    ·rfl
  | view k =>
   simp only [qdk] at h ⊢
   cases hl:qjx j acc with
   | none=>rfl
   | some b =>
    have hb:H'[b]?=H[b]?:=by
     refine h j b (wae _) (by simp) ?_
     rw [hl];simp only;split
     ·rename_i c _ _ _;obtain ⟨t,ht⟩:=qfj (H:=H) (bl:=bl) (j:=j+1) (acc:=acc++[(k,c)]);rw [ht];exact qfl (qfl hl)
     ·exact hl
    simp only [hl] at h;simp only [hb];split
    ·rename_i c i f hvs;rw [hvs] at h;exact qfq fun i b h1 h2 h3=>h i b (by omega) (by simp only [wbf];omega) h3
    ·rfl
  | _ =>
   simp only [qdk] at h ⊢;exact qfq fun i b h1 h2 h3=>h i b (by omega) (by simp only [wbf];omega) h3
theorem qzg:∀ {bl:List TB} {acc:List (Nat×Nat)} {j i:Nat},i<bl.length→(rhoL acc j bl)[i]?=some (qjx (j+i) acc)
 | [],acc,j,i,h=>by simp at h
 | tb::bl,acc,j,0,h=>by simp [rhoL]
 | tb::bl,acc,j,i+1,h=>by
  simp only [rhoL,wbd];rw [qzg (by simpa using h)]
  congr 2;omega
section
variable {ρ:List (Option Nat)} {lens:List Nat}
theorem qfn (h:∀ (j b:Nat),ρ[j]?=some (some b)→H'[b]?=H[b]?):∀ {tv:TV} {x:AV},qcd ρ H' lens tv x=qcd ρ H lens tv x
 | .u,x=>by simp only [qcd]
 | .v t,x=>by cases t<;>simp only [qcd]
 | .sl j s i,x=>by
  cases x<;>simp only [qcd]
  rename_i b s' i' len c;split
  ·rename_i hh
   cases c with
   | none=>rfl
   | some c=>simp only [qaw (h _ _ (qes hh.1))]
  ·rfl
 | .slf j s,x=>by
  cases x<;>simp only [qcd]
  rename_i b s' i' len c;split
  ·rename_i hh
   cases c with
   | none=>rfl
   | some c=>simp only [qaw (h _ _ (qes hh.1))]
  ·rfl
 | .ref j s i o,x=>by cases x<;>simp only [qcd]
 | .mref j,x=>by cases x<;>simp only [qcd]
 | .fn f c,x=>by
  cases x<;>simp only [qcd]
  rw [qfn h]
 | .nil,x=>by cases x<;>simp only [qcd]
 | .cons a l,x=>by
  cases x<;>simp only [qcd]
  rw [qfn h,qfn h]
 | .opt tv,x=>by
  have ih:=fun x=>qfn h (tv:=tv) (x:=x)
  cases x<;>simp only [qcd,ih]
theorem qhe (h:∀ (j b:Nat),ρ[j]?=some (some b)→H'[b]?=H[b]?):∀ {l:List TV} {xs:List AV},qge ρ H' lens l xs=qge ρ H lens l xs
 | [],[]=>by simp only [qge]
 | tv::l,x::xs=>by simp only [qge];rw [qfn h,qhe h]
 | [],_::_=>by simp only [qge]
 | _::_,[]=>by simp only [qge]
theorem qw8 (h:∀ (j b:Nat),ρ[j]?=some (some b)→H'[b]?=H[b]?) {o:Option Nat} (ho:∀ b,o=some b→H'[b]?=H[b]?) {tb:TB}:qch ρ H' lens o tb=qch ρ H lens o tb:=by
 cases o with
 | none=>cases tb<;>simp only [qch]
 | some b =>
  cases tb<;>simp only [qch,qaw (ho b rfl)]
  ·split
   ·exact qhe h
   ·rfl
  ·rename_i j;rw [ho b rfl];split
   ·rename_i c i hc
    cases ha:isAt ρ j c with
    | false=>rfl
    | true=>simp only [qaw (h _ _ (qes ha))]
   ·rfl
  ·simp only [qhe h]
theorem qmf (h:∀ (j b:Nat),ρ[j]?=some (some b)→H'[b]?=H[b]?):∀ {bs:List (Option Nat)} {bl:List TB},(∀ (j:Nat) (b:Nat),bs[j]?=some (some b)→H'[b]?=H[b]?)→qcm ρ H' lens bs bl=qcm ρ H lens bs bl
 | [],[],_=>by simp only [qcm]
 | o::bs,tb::bl,hb=>by
  simp only [qcm];rw [qw8 h (fun b e=>hb 0 b (by simp [e])),qmf h fun j b hj=>hb (j+1) b (by simpa using hj)]
 | [],_::_,_=>by simp only [qcm]
 | _::_,[],_=>by simp only [qcm]
theorem qpe:∀ {bs:List (Option Nat)} {bl:List TB},(∀ (j:Nat) (b:Nat),bs[j]?=some (some b)→H'[b]?=H[b]?)→qf2 H' bs bl=qf2 H bs bl
 | [],[],_=>by simp only [qf2]
 | o::bs,tb::bl,hb=>by
  simp only [qf2];rw [qpe fun j b hj=>hb (j+1) b (by simpa using hj)]
  congr 1
  cases o with
  | none=>cases tb<;>rfl
  | some b =>
   cases tb<;>try rfl
   ·simp only [qaw (hb 0 b rfl)]
   ·simp only [qaw (hb 0 b rfl)]
 | [],_::_,_=>by simp only [qf2]
 | _::_,[],_=>by simp only [qf2]
end
theorem qpm {b:Nat}:∀ {ρ:List (Option Nat)} {j:Nat},ρ[j]?=some (some b)→b∈qpg ρ
 | [],j,h=>by simp at h
 | o::ρ,0,h=>by simp at h;subst h;simp [qpg]
 | o::ρ,j+1,h=>by
  have:=qpm (ρ:=ρ) (j:=j) (by simpa using h)
  cases o<;>simp [qpg,this]
theorem qnv {acc:List (Nat×Nat)} {tvs:List TV} {bl:List TB} {xs:List AV} (h:∀ b∈qpg (rhoL (qdk H 0 bl acc) 0 bl),H'[b]?=H[b]?):qiw acc H' tvs bl xs=qiw acc H tvs bl xs:=by
 have e1:qdk H' 0 bl acc=qdk H 0 bl acc:=qfq fun i b _ hi hl=>by
  refine h b (qpm (j:=i) ?_);rw [qzg (by omega),wbj,hl]
 have h':∀ (j b:Nat),(rhoL (qdk H 0 bl acc) 0 bl)[j]?=some (some b)→H'[b]?=H[b]?:=fun j b hj=>h b (qpm hj)
 simp only [qiw,e1];rw [qpe h',qhe h',qmf h' h']
theorem qii:∀ {ρ:List (Option Nat)} {nm:List Nat},(∀ n∈nm,H'[n]?=H[n]?)→nmOk H' ρ nm=nmOk H ρ nm
 | [],[],_=>by simp only [nmOk]
 | none::ρ,n::nm,h=>by
  simp only [nmOk];rw [qa4 (h n (by simp)),qii fun m hm=>h m (by simp [hm])]
 | some b::ρ,n::nm,h=>by
  have h1:qwk H' n=qwk H n:=by unfold qwk;rw [h n (by simp)]
  simp only [nmOk,h1];rw [qii fun m hm=>h m (by simp [hm])]
 | [],_::_,_=>by simp only [nmOk]
 | none::_,[],_=>by simp only [nmOk]
 | some _::_,[],_=>by simp only [nmOk]
theorem qmt {n:Nat}:∀ {nm:List Nat} {hs:List Hs},nm.length=hs.length→n∈nm→∃ h,(n,h)∈zipH nm hs
 | x::nm,h::hs,hl,hn=>by
  rcases List.mem_cons.1 hn with rfl | hn
  ·exact ⟨h,by simp [zipH]⟩
  ·obtain ⟨h',hh⟩:=qmt (hs:=hs) (by simpa using hl) hn
   exact ⟨h',by simp [zipH,hh]⟩
 | x::nm,[],hl,_=>by simp at hl
 | [],_,_,hn=>by cases hn
theorem SCon.eff0_frame {c:SCon} {base:Nat} {args:List AV} {e:Ef} (h:c.eff0 H base args=some e) (ha:qe2 H H' e):c.eff0 H' base args=some e:=by
 have h0:=h;obtain ⟨ρ,p,env,q,r,nm,hr,h1,h2,hnm0,hnm,hnd,hlen,hp1,hp2,rfl⟩:=SCon.eff0_some h;have hρ:ρ=rhoL (qdk H 0 c.ibl (qgg c.ins args)) 0 c.ibl:=by
  obtain ⟨_,_,_,_,h,_⟩:=ql6 hr;exact h
 have key:qiw (qgg c.ins args) H' c.ins c.ibl args=qiw (qgg c.ins args) H c.ins c.ibl args:=qnv fun b hb=>ha.1 b (by rw [hρ];exact hb)
 have hn:∀ n∈nm,H'[n]?=H[n]?:=fun n hn=>by
  obtain ⟨x,hx⟩:=qmt (hs:=stB nm c.outs c.obl (qbc _ r)) (by rw [qek,hlen]) hn
  exact ha.2 _ hx
 unfold SCon.eff0 at h0 ⊢;rw [key,hr] at *;simp only [h1,h2] at h0 ⊢;rw [← hnm0] at h0 ⊢;rw [qii hn];exact h0
theorem SCon.eff_frame {c:SCon} {base:Nat} {args:List AV} {e:Ef} (h:c.eff H base args=some e) (ha:qe2 H H' e):c.eff H' base args=some e:=by
 unfold SCon.eff at h ⊢
 cases hn:qho c.obl with
 | false=>rw [hn] at h;exact SCon.eff0_frame h ha
 | true =>
  rw [hn] at h
  cases h0:c.eff0 (H.map qf1) base args with
  | none=>rw [h0] at h;cases h
  | some e0 =>
   rw [h0] at h;cases h;rw [qqf ha.1];simp only [h0]
theorem SCon.effM_frame {c:SCon} {m:Bool} {base:Nat} {args:List AV} {e:Ef} (h:c.effM m H base args=some e) (ha:qe2 H H' e):c.effM m H' base args=some e:=by
 have h0:=h;obtain ⟨hnt,ρ,p,env,q,r,q0,r0,nm,hr,h1,h2,h3,hnm0,hnm,hnd,hlen,hp1,hp2,rfl⟩:=SCon.effM_some h;have hρ:ρ=rhoL (qdk H 0 c.ibl (qgg c.ins args)) 0 c.ibl:=by
  obtain ⟨_,_,_,_,h,_⟩:=ql6 hr;exact h
 have key:qiw (qgg c.ins args) H' c.ins c.ibl args=qiw (qgg c.ins args) H c.ins c.ibl args:=qnv fun b hb=>ha.1 b (by rw [hρ];exact hb)
 have hn:∀ n∈nm,H'[n]?=H[n]?:=fun n hn=>by
  obtain ⟨x,hx⟩:=qmt (hs:=stB nm c.outs c.obl (qbc _ (qps m _ r r0))) (by rw [qek,hlen]) hn
  exact ha.2 _ hx
 unfold SCon.effM at h0 ⊢;rw [hnt] at h0 ⊢;simp only at h0 ⊢;rw [key,hr] at *;simp only [h1,h2,h3] at h0 ⊢;rw [← hnm0] at h0 ⊢;rw [qii hn];exact h0
theorem Lives.rvV_mask {K:List Nat} (h:∀ b∈K,H'[b]?=H[b]?):Lives (qds K 0 (H.map qf1)) (qds K 0 (H'.map qf1)):=by
 refine ⟨fun b B hB=>?_,fun m b i f hm=>absurd (qle hm) qla⟩
 obtain ⟨g1,g2⟩:=qbg (qav hB);have g3:=h b g2;have g4:=qd1.1 g1;rw [← g3] at g4;simp only [hget];rw [qdm,qd1.2 g4];simp [qiq.2 g2]
theorem qnn (h:Lives H H'):∀ {tvs:List TV} {args:List AV} {r:List Prop×List AV},frzA H tvs args=some r→frzA H' tvs args=some r
 | [],[],r,h1=>by simpa only [frzA] using h1
 | [],_::_,r,h1=>by simp [frzA] at h1
 | tv::l,[],r,h1=>by cases tv<;>simp [frzA] at h1
 | tv::l,x::xs,r,h1=>by
  by_cases hh:∃ t b' s i n c,tv=.v t∧x=.sl b' s i n c
  ·obtain ⟨t,b',s,i,n,c,rfl,rfl⟩:=hh;simp only [frzA] at h1 ⊢;split at h1
   ·rename_i p1 y q ys' k1 k2;have k1':rvV H' t (.sl b' s i n c)=some (p1,y):=by
     unfold rvV at k1 ⊢;split at k1
     ·rename_i ha;rw [if_pos ha];exact k1
     ·rename_i ha;rw [if_neg ha];exact qgb h _ _ _ k1
    rw [k1',qnn h k2];exact h1
   ·cases h1
  ·rw [qqe hh] at h1 ⊢;split at h1
   ·rename_i q ys' k2;rw [qnn h k2];exact h1
   ·cases h1
theorem SCon.effF_frame {c:SCon} {base:Nat} {args:List AV} {e:Ef} (h:c.effF H base args=some e) (ha:qe2 H H' e):c.effF H' base args=some e:=by
 obtain ⟨p,ys,e0,h1,h2,rfl⟩:=SCon.effF_some h;have hK:∀ b∈frzB c.ins args,H'[b]?=H[b]?:=fun b hb=>ha.1 b (wb6 _ hb)
 have hput:∀ b,H'[b]?=H[b]?→(qao H' (qoj (frzB c.ins args)))[b]?=(qao H (qoj (frzB c.ins args)))[b]?:=fun b hb=>by
  have hl:b<H'.length↔b<H.length:=by
   rcases Nat.lt_or_ge b H.length with h | h
   ·rw [wab h] at hb;exact ⟨fun _=>h,fun _=>(List.getElem?_eq_some_iff.1 hb).1⟩
   ·rw [wac h] at hb;have:=List.getElem?_eq_none_iff.1 hb;omega
  rw [qse,qip,qip,hb];simp only [hl]
 have ha0:qe2 (qao H (qoj (frzB c.ins args))) (qao H' (qoj (frzB c.ins args))) e0:=⟨fun b hb=>hput b (ha.1 b (wb7 _ hb)),fun q hq=>hput q.1 (ha.2 q (wb7 _ hq))⟩
 have k1:=qnn (Lives.rvV_mask hK) h1;have k2:=SCon.eff_frame h2 ha0;simp only [SCon.effF,k1,k2]
theorem SCon.effC_frame {c:SCon} {base:Nat} {args:List AV} {e:Ef} (h:c.effC H base args=some e) (ha:qe2 H H' e):∃ e',c.effC H' base args=some e'∧Ef.sim e e':=by
 obtain ⟨t,s,t',b,s',i,n,cc,p,y,q,r,h1,h2,h3,h4,rfl,hfl,hfr,hrv,hpre,hF,rfl⟩:=SCon.effC_some h;have hl:Lives H H':=qky rfl ha.1;have hr':rvV H' t (.sl b s' i n cc)=some (p,y):=by
  unfold rvV at hrv ⊢;split at hrv
  ·rename_i ha;rw [if_pos ha];exact hrv
  ·rename_i ha;rw [if_neg ha];exact qgb hl _ _ _ hrv
 have hb:qax H' base=qax H base:=by
  obtain ⟨x,hx⟩:=qmt (nm:=[base]) (hs:=stB [base] c.outs c.obl (qbc _ r)) (by rw [qek,h4];rfl) (wa7 ..)
  exact qa4 (ha.2 _ hx)
 obtain ⟨f,ins,ibl,outs,obl,pre,F⟩:=c;simp only at h1 h2 h3 h4 hpre hF;subst h1;subst h2;subst h3;subst h4;unfold SCon.effC;simp only [hfl,hb,hfr,hr',hpre,hF];exact ⟨_,rfl,rfl,rfl,rfl⟩
theorem SCon.effCF_frame {c:SCon} {base:Nat} {args:List AV} {e:Ef} (h:c.effCF H base args=some e) (ha:qe2 H H' e):∃ e',c.effCF H' base args=some e'∧Ef.sim e e':=by
 unfold SCon.effCF at h ⊢;split at h
 ·rename_i hc;exact SCon.effC_frame h ha
 ·rename_i hc;exact ⟨e,SCon.effF_frame h ha,Ef.sim.refl _⟩
theorem q2q {args:List AV} {m:Bool} {l:List AV} (h:qqd args=some (m,l)):args=mark m::l:=by
 unfold qqd at h;split at h
 ·cases h;rfl
 ·cases h
theorem q9q {w:World} {Γ:Cx} {m:Bool} {l:List AV} {vs:List Value} (h:Fa w Γ (mark m::l) vs):False:=by
 cases vs with
 | nil=>exact h.elim
 | cons v vs =>
  have h:=h.1;simp only [mark,Ra,Rp,wa9] at h;obtain ⟨_,us,⟨_,h1⟩,_,_,us',h2,_⟩:=h;rw [← h1] at h2;cases h2
theorem qy8 {P:Program} {cs:List Con} (hc:∀ c∈cs,c.Ok P):∀ {ss:List SCon},(∀ c∈ss,c.Ok P)→∀ (f:FuncId) (H:List Hs) (base:Nat) (args:List AV),allP (spS ss cs f H base args).ob→qbw P f=true ∧
  ∀ (Γ:Cx) (w:World) (vs:List Value),EmbH Γ H w→Fa w Γ args vs →
   Calls P f vs.toArray w fun en w'=>∃ v Γ',en=.returned v∧Ext Γ H w Γ' (qao H (spS ss cs f H base args).up) w'∧EmbH Γ' (qao H (spS ss cs f H base args).up) w'∧Ra w' Γ' (spS ss cs f H base args).v v
 | [],_=>(q4p hc).ok
 | c::ss,h=>fun f H base args hob=>by
  simp only [spS] at hob ⊢;split at hob
  ·rename_i hh;have hcf:c.f=f:=by
    simp only [wbc] at hh;exact waj hh.1
   subst hcf;have hc:=h c (wa7 ..)
   cases hm:qqd args with
   | some x =>
    obtain ⟨m,l⟩:=x;refine ⟨hc.1,fun Γ w vs em hf=>?_⟩
    rw [q2q hm] at hf;exact (q9q hf).elim
   | none =>
    rw [hm] at hob;simp only at hob ⊢
    cases he:c.eff H base args with
    | none=>rw [he] at hob;exact qaa hob
    | some e =>
     rw [he] at hob;exact ⟨hc.1,fun Γ w vs em hf=>q28 hc he hob em hf⟩
  ·rename_i hh;split at hob
   ·rename_i hk;have hcf:c.f=f:=by
     simp only [wbc] at hk;exact waj hk.1
    subst hcf;have hc:=h c (wa7 ..)
    cases he:c.effCF H base args with
    | none=>rw [he] at hob;exact qaa hob
    | some e =>
     rw [he] at hob;exact ⟨hc.1,fun Γ w vs em hf=>q06 hc he hob em hf⟩
   ·exact qy8 hc (fun c hc=>h c (wan _ hc)) f H base args hob
theorem qxm {P:Program} {cs:List Con} (hc:∀ c∈cs,c.Ok P):∀ {ss:List SCon},(∀ c∈ss,c.Ok P)→∀ (f:FuncId) (H:List Hs) (base:Nat) (m:Bool) (args:List AV),allP (spS ss cs f H base (mark m::args)).ob →
  (m=true→qbw P f=true∧∀ (Γ:Cx) (w:World) (vs:List Value),EmbH Γ H w→Fa w Γ args vs →
   Calls P f vs.toArray w fun en w'=>∃ v Γ',en=.returned v∧Ext Γ H w Γ' (qao H (spS ss cs f H base (mark m::args)).up) w'∧EmbH Γ' (qao H (spS ss cs f H base (mark m::args)).up) w'∧Ra w' Γ' (spS ss cs f H base (mark m::args)).v v) ∧
  (m=false→∀ (Γ:Cx) (w:World),EmbH Γ H w→∃ Γ',Ext Γ H w Γ' (qao H (spS ss cs f H base (mark m::args)).up) w∧EmbH Γ' (qao H (spS ss cs f H base (mark m::args)).up) w)
 | [],_=>(q4p hc).mrk
 | c::ss,h=>fun f H base m args hob=>by
  simp only [spS] at hob ⊢;split at hob
  ·rename_i hh;have hcf:c.f=f:=by
    simp only [wbc] at hh;exact waj hh.1
   subst hcf;have hc:=h c (wa7 ..);simp only [mark,qqd] at hob ⊢
   cases he:c.effM m H base args with
   | none=>rw [he] at hob;exact qaa hob
   | some e =>
    rw [he] at hob;obtain ⟨g1,g2⟩:=q6c hc he hob;exact ⟨fun hm=>⟨hc.1,g1 hm⟩,g2⟩
  ·rename_i hh;simp only [mark,qyy,wb3,wb2] at hob ⊢;exact qxm hc (fun c hc=>h c (wan _ hc)) f H base m args hob
theorem q4g {P:Program} {cs:List Con} (hc:∀ c∈cs,c.Ok P) {ss:List SCon} (h:∀ c∈ss,c.Ok P):SpecOk P (spS ss cs) :=
 ⟨qy8 hc h,qxm hc h⟩
theorem qls {cs:List Con}:∀ {ss:List SCon},qdp (spS ss cs)
 | []=>qo6
 | c::ss=>fun f H H' base args hob ha=>by
  simp only [spS] at hob ha ⊢;split at hob
  ·rename_i hh;rw [hh] at ha;simp only at ha
   cases hm:qqd args with
   | some x =>
    obtain ⟨m,l⟩:=x;rw [hm] at hob ha;simp only at hob ha ⊢
    cases he:c.effM m H base l with
    | none=>rw [he] at hob;exact qaa hob
    | some e =>
     rw [he] at hob ha;simp only at ha ⊢;rw [SCon.effM_frame he ha];exact Ef.sim.refl _
   | none =>
    rw [hm] at hob ha;simp only at hob ha ⊢
    cases he:c.eff H base args with
    | none=>rw [he] at hob;exact qaa hob
    | some e =>
     rw [he] at hob ha;simp only at ha ⊢;rw [SCon.eff_frame he ha];exact Ef.sim.refl _
  ·rename_i hh;rw [hh] at ha;simp only at ha;split at hob
   ·rename_i hk;rw [hk] at ha;simp only at ha
    cases he:c.effCF H base args with
    | none=>rw [he] at hob;exact qaa hob
    | some e =>
     rw [he] at hob ha;simp only at ha ⊢;obtain ⟨e',h1,h2⟩:=SCon.effCF_frame he ha;rw [h1];exact h2
   ·rename_i hk;rw [hk] at ha;exact qls f H H' base args hob ha
end
def rawR (T:List AV):List RS→List AV
 | []=>[]
 | .tmp n::l=>T.getD n .undef::rawR T l
 | .cell _ _::l=>.undef::rawR T l
def q7u:AV→Bool
 | .opt ..=>true
 | .gd _ v=>q7u v
 | _=>false
def frzT (S:St):TV→RS→Option Ty
 | .v t,_=>some t
 | .opt x,.tmp n=>match x with
  | .v t=>match q7u (S.T.getD n .undef) with
   | true=>none
   | false=>some t
  | _=>none
 | _,_=>none
def frzR (S:St):List TV→List RS→Option (List Prop×List AV)
 | [],[]=>some ([],[])
 | tv::tvs,s::l=>match frzT S tv s with
  | some t=>match qo3 S t s,frzR S tvs l with
   | some (p,y),some (q,r)=>some (p++q,.val t y::r)
   | _,_=>none
  | none=>match s,frzR S tvs l with
   | .tmp n,some (q,r)=>some (q,S.T.getD n .undef::r)
   | _,_=>none
 | _,_=>none
def q0l (ρ:List (Option Nat)):List Nat→List Nat
 | []=>[]
 | x::l=>match memO x ρ with
  | true=>q0l ρ l
  | false=>x::q0l ρ l
def q42:List Nat→List (Nat×Hs)
 | []=>[]
 | b::l=>(b,.dead)::q42 l
def zb0 (S:St) (n:Nat) (outs:List TV) (obl:List TB) (slots:List RS):Option (List Prop×Dens (outs.flatMap TV.ts++tsB obl)) :=
 match qw6 0 n++qgg outs (rawR S.T slots) with
 | acc=>match q0l (qgp obl (rhoL (qdk S.H 0 obl acc) 0 obl)) (qbk 0 S.H) with
  | K=>match frzR ⟨S.T,qds K 0 S.H⟩ outs slots with
   | some (p,xs)=>match qiw acc (qao S.H (q42 K)) outs obl xs with
    | some (ρ,q,env)=>match idOk 0 n ρ,qnq (outs.flatMap TV.ts++tsB obl) env with
     | true,some r=>some (p++q,r)
     | _,_=>none
    | none=>none
   | none=>none
noncomputable def finS (n:Nat) (outs:List TV) (obl:List TB) (slots:List RS):KT (Dens (outs.flatMap TV.ts++tsB obl)):=fun Y f e S=>match e with
 | .exit _=>none
 | _=>match zb0 S n outs obl slots with
  | some (p,y)=>gdL p (some (f y))
  | none=>none
theorem q6j {n:Nat} {outs:List TV} {obl:List TB} {slots:List RS}:NatK (finS n outs obl slots):=fun Y f e S=>by
 cases e<;>simp only [finS]
 ·split
  ·rw [qe1];rfl
  ·rfl
 ·rfl
 ·split
  ·rw [qe1];rfl
  ·rfl
noncomputable def SCon.vc (c:SCon) (sp:Spec) (L:List LSh) (ac:AC) (n:Nat) (slots:List RS):Prop :=
 allD (c.ins.flatMap TV.ts++tsB c.ibl) fun env=>match c.pre env,c.F env with
  | some p,some r=>impL p (runO sp L ac ⟨stV (qa3 0 c.ibl.length) c.ins c.ibl env++List.replicate n .undef,stB (qa3 0 c.ibl.length) c.ins c.ibl env⟩ (finS c.ibl.length c.outs c.obl slots) (Dens (c.outs.flatMap TV.ts++tsB c.obl)) id=some r)
  | _,_=>False
noncomputable def SCon.goal (P:Program) (sp:Spec) (c:SCon) (L:List LSh) (ms:List Nat) (lm:List (List Nat)):Prop :=
 match comp P c.f c.ins.length ms lm with
 | some ⟨ac,n,slots⟩=>c.vc sp L ac n slots
 | none=>False
theorem qzb:∀ {K:List Nat},q42 K=K.map fun b=>(b,.dead)
 | []=>rfl
 | b::K=>by rw [q42,qzb];rfl
theorem qo5 {ρ:List (Option Nat)} {b:Nat}:∀ {l:List Nat},b∈q0l ρ l→b∈l
 | x::l,h=>by
  simp only [q0l] at h;split at h
  ·exact wan _ (qo5 h)
  ·rcases List.mem_cons.1 h with rfl | h
   ·exact wa7 ..
   ·exact wan _ (qo5 h)
theorem qmg:∀ {H:List Hs} {n b:Nat},b∈qbk n H→n≤b∧∃ x,H[b-n]?=some x∧x≠.free
 | [],n,b,h=>by simp [qbk] at h
 | x::H,n,b,h=>by
  have key:b∈qbk (n+1) H→n≤b∧∃ y,(x::H)[b-n]?=some y∧y≠.free:=fun h=>by
   obtain ⟨h1,y,hy⟩:=qmg h;refine ⟨by omega,y,?_⟩
   rw [show b-n=(b-(n+1))+1 by omega,wbd]
   exact hy
  cases x with
  | live B =>
   simp only [qbk,List.mem_cons] at h
   rcases h with rfl | h
   ·exact ⟨wae _,.live B,by simp,by simp⟩
   ·exact key h
  | view c i f =>
   simp only [qbk,List.mem_cons] at h
   rcases h with rfl | h
   ·exact ⟨wae _,.view c i f,by simp,by simp⟩
   ·exact key h
  | free=>exact key h
  | dead=>exact key h
section
variable {P:Program}
theorem qlo {w:World} {Γ:Cx} {S:St} {a:Act} (em:Emb Γ S a w) {Γz:Cx} (hI:∀ n,Jf Γ S.H n↔Γz.I n) (hA:∀ b,Γ.A b→Γz.A b∧Γz.ν b=Γ.ν b∧Γz.κ b=Γ.κ b) {g:ResultVar→Sem Value} (hg:∀ t,g (.tmp t)=pure (a.tmps.getD t undef)) (hc:∀ n t,g (.cell n t)=do loadVar t (← asAddr (a.tmps.getD n undef))) :
  ∀ {tvs:List TV} {slots:List RS} {l:List ResultVar} {p:List Prop} {xs:List AV},qb3 P l=some slots→frzR S tvs slots=some (p,xs)→allP p →
  ∃ us,(l.mapM g).run P w=.ok us w∧Fa w Γz xs us
 | tvs,slots,[],p,xs,hl,h,_=>by
  simp only [qb3,wa8] at hl;subst hl
  cases tvs with
  | nil =>
   simp only [frzR,wa8,wba] at h;obtain ⟨_,rfl⟩:=h;exact ⟨[],by simp,trivial⟩
  | cons t ts=>simp [frzR] at h
 | tvs,slots,x::l,p,xs,hl,h,hp=>by
  obtain ⟨r,rest,rfl,h1,h2⟩:=qjz hl
  cases tvs with
  | nil=>simp [frzR] at h
  | cons tv tvs =>
   have other:∀ n q r',r=.tmp n→frzR S tvs rest=some (q,r')→p=q→xs=S.T.getD n .undef::r'→∃ us,((x::l).mapM g).run P w=.ok us w∧Fa w Γz xs us:=by
    rintro n q r' rfl k2 rfl rfl
    cases x with
    | tmp m =>
     simp only [qb3,wa8,wa9,RS.tmp.injEq,and_true] at h1;subst h1;obtain ⟨us,m3,m4⟩:=qlo em hI hA hg hc h2 k2 hp;refine ⟨a.tmps.getD m undef::us,by simp [List.mapM_cons,hg,m3],?_,m4⟩
     exact Rp.mono (fun b hb=>(hI b).1 (.inl hb)) (fun _ _=>rfl) hA _ _ (qt8 em m)
    | cell m t =>
     simp only [qb3] at h1;split at h1<;>simp at h1
   simp only [frzR] at h
   cases hft:frzT S tv r with
   | some t =>
    rw [hft] at h;simp only at h;split at h
    ·rename_i p1 z q r' k1 k2;cases h;obtain ⟨hp1,hp2⟩:=qae.1 hp;obtain ⟨v,m1,m2⟩:=qj6 em hg hc h1 k1 hp1;obtain ⟨us,m3,m4⟩:=qlo em hI hA hg hc h2 k2 hp2;refine ⟨v::us,by simp [List.mapM_cons,m1,m3],?_,m4⟩
     refine Ra_val.2 ?_;obtain ⟨cs,c1,c2⟩:=m2;exact ⟨cs,RepC.mono (fun b hb=>(hI b).1 hb) (fun _ _=>rfl) _ _ _ c1,c2⟩
    ·cases h
   | none =>
    rw [hft] at h;simp only at h;split at h
    ·rename_i n q r' k1;simp only [wa8,wba] at h;exact other n q r' rfl k1 h.1.symm h.2.symm
    ·cases h
theorem q6z {w:World} {Γ:Cx} {xs:List AV} {us:List Value} (h:Fa w Γ xs us):Ra w Γ (resS xs) (resV us):=by
 match xs,us,h with
 | [],[],h =>
  simp only [resS,resV,Ra,Rp,wa9,and_true];exact ⟨[],rfl,qel.2 h⟩
 | [x],[u],h=>exact h.1
 | x::x'::xs,u::u'::us,h =>
  simp only [resS,resV,Ra,Rp,wa9,and_true];exact ⟨_,rfl,qel.2 h⟩
 | [],_::_,h=>exact h.elim
 | _::_,[],h=>exact h.elim
 | [_],_::_::_,h=>exact h.2.elim
 | _::_::_,[_],h=>exact h.2.elim
theorem SCon.prove (c:SCon) {sp:Spec} (hsp:SpecOk P sp) (hfr:qdp sp) (hm:P.follows .mixedOrders=true) {fn:Func} {code:Code} {ms:List Nat} {lm lm':List (List Nat)} {ac:AC} {slots:List RS} {n:Nat}
  (hf:P.funcs[c.f]?=some fn) (hb:fn.body=some code) (hcall:qbw P c.f=true) (hn:fn.ntmps-c.ins.length=n) (hres:qb3 P fn.results.toList=some slots) (hc:qf3 P ms code lm=some (ac,lm'))
  {L:List LSh} (h:c.vc sp L ac n slots):c.Ok P:=by
 refine ⟨hcall,fun Γ w env p r vs em henv hpre hF hp hargs=>?_⟩
 have h:=qj0 h henv;rw [hpre,hF] at h;have h:=qn7 h hp;have hal:(stV (qa3 0 c.ibl.length) c.ins c.ibl env).length=c.ins.length:=qmh;generalize hH0:stB (qa3 0 c.ibl.length) c.ins c.ibl env=H0 at em h ⊢;have hH0l:H0.length=c.ibl.length:=by rw [← hH0];exact qek
 generalize stV (qa3 0 c.ibl.length) c.ins c.ibl env=xs0 at hal hargs h;have hlen:xs0.length=vs.length:=hargs.length;have em0:Emb Γ ⟨xs0++List.replicate n .undef,H0⟩ { tmps:=vs.toArray++Array.replicate (fn.ntmps-vs.toArray.size) undef,defers:=[] } w:=by
  refine ⟨rfl,?_,fun i x hx=>?_,em⟩
  ·simp only [Array.size_append,Array.size_replicate,waf,wax,List.size_toArray];rw [hlen,← hn,← hal,hlen]
  ·rcases Nat.lt_or_ge i vs.length with hi | hi
   ·rw [wag (by omega)] at hx
    obtain ⟨v,hv,hr⟩:=hargs.get i x hx;refine ⟨v,?_,hr⟩;rw [Array.getElem?_append_left (by simpa using hi)]
    simpa using hv
   ·rw [wah (by omega),wa6] at hx
    split at hx
    ·rename_i hlt;cases hx;have hsz:i<(vs.toArray++Array.replicate (fn.ntmps-vs.toArray.size) undef).size:=by
      simp only [Array.size_append,Array.size_replicate,List.size_toArray];omega
     exact ⟨_,Array.getElem?_eq_getElem hsz,qcq⟩
    ·cases hx
 refine calls_of_wp hf hb (wp_mono (qqv hsp hfr hm code lm ac lm' hc _ q6j r Γ _ _ w em0 h) fun e a w' hq=>?_)
 obtain ⟨Γ',S',em',hx,hk⟩:=hq;have key:∀ hk:finS c.ibl.length c.outs c.obl slots (Dens (c.outs.flatMap TV.ts++tsB c.obl)) id .normal S'=some r,a.defers=[]∧∃ v,(results fn a.tmps).run P w'=.ok v w'∧∃ v' Γ',Ending.returned v=.returned v' ∧
   Ext Γ H0 w Γ' (stB (qa3 0 c.obl.length) c.outs c.obl (qbc _ r)) w'∧EmbH Γ' (stB (qa3 0 c.obl.length) c.outs c.obl (qbc _ r)) w'∧Ra w' Γ' (resS (stV (qa3 0 c.obl.length) c.outs c.obl (qbc _ r))) v':=by
  intro hk;simp only [finS] at hk;split at hk
  ·rename_i q y hy;obtain ⟨hq,he⟩:=qbr.1 hk;simp only [id,wa8] at he;subst he;simp only [zb0] at hy;generalize hKK:q0l (qgp c.obl (rhoL (qdk S'.H 0 c.obl (qw6 0 c.ibl.length++qgg c.outs (rawR S'.T slots))) 0 c.obl)) (qbk 0 S'.H)=K at hy;split at hy
   ·rename_i p1 xs hfz;split at hy
    ·rename_i ρ q1 env' hrt;split at hy
     ·rename_i r' hid htd;cases hy;obtain ⟨hp1,hq1⟩:=qae.1 hq;have hKA:∀ b∈K,Γ'.A b:=fun b hb=>by
       rw [← hKK] at hb;have:=(qmg (qo5 hb)).2;rw [Nat.sub_zero] at this;exact (em'.heap.al b).2 this
      have emM:Emb Γ' ⟨S'.T,qds K 0 S'.H⟩ a w':=⟨em'.defers,em'.size,em'.tmp,qro em'.heap⟩;obtain ⟨x1,em1⟩:=qop (K:=K) (I:=Jf Γ' (qds K 0 S'.H)) em'.heap hKA (fun _ _=>rfl) (wae _) rfl rfl (fun _ h=>.inl h) (fun n hn=>.inl hn) (fun n hn=>by
       rcases hn with h | hw
       ·exact em'.heap.old n h
       ·obtain ⟨c,hc⟩:=q2g (hw.sub fun _ _ h=>(qbg h).1)
        exact em'.heap.own_lt hc)
      rw [← qzb] at x1 em1;have hz:=hx.trans x1;have hex:∃ us,(∀ g:ResultVar→Sem Value,(∀ t,g (.tmp t)=pure (a.tmps.getD t undef))→(∀ n t,g (.cell n t)=do loadVar t (← asAddr (a.tmps.getD n undef)))→(fn.results.toList.mapM g).run P w'=.ok us w')∧Fa w' { Γ' with I:=Jf Γ' (qds K 0 S'.H) } xs us:=by
       let g0:ResultVar→Sem Value:=fun | .tmp t=>pure (a.tmps.getD t undef) | .cell n t=>do loadVar t (← asAddr (a.tmps.getD n undef))
       obtain ⟨us,u1,u2⟩:=qlo emM (Γz:={ Γ' with I:=Jf Γ' (qds K 0 S'.H) }) (fun n=>Iff.rfl) (fun b hb=>⟨hb,rfl,rfl⟩) (g:=g0) (fun _=>rfl) (fun _ _=>rfl) hres hfz hp1
       refine ⟨us,fun g h1 h2=>?_,u2⟩
       have:g=g0:=by funext x;cases x<;>simp [g0,h1,h2]
       rw [this];exact u1
      obtain ⟨us,k1,k2⟩:=hex;obtain ⟨g1,g2,g3,g4,g5⟩:=qj9 em1 hrt hq1;have hde:=qnw htd;rw [← hde];refine ⟨em'.defers,_,qof k1,_,({ Γ' with I:=Jf Γ' (qds K 0 S'.H) }:Cx).head 0 ρ noA,rfl,⟨hz.fr,hz.size,hz.os,hz.out,fun n hn=>?_,hz.im,hz.mi,fun b hb=>?_⟩,g3,q6z (g5 us k2)⟩
      ·obtain ⟨j,c',_,m2⟩:=g4 n hn;exact hz.wr n m2.wr
      ·have hlt:b<c.ibl.length:=by
        obtain ⟨x,hx,_⟩:=(em.al b).1 hb;have:=qbi hx;omega
       have hid':=qki hid b hlt;rw [wbj] at hid';obtain ⟨f1,f2,f3⟩:=(Nm.head (Γ:={ Γ' with I:=Jf Γ' (qds K 0 S'.H) }) (len:=0) (ρ:=ρ) (A0:=noA)).so b b hid'
       rw [qar (qcf hid'),wbj] at f1 f2 f3;obtain ⟨_,z2,z3⟩:=hz.al b hb;exact ⟨f1,f2.trans z2,f3.trans z3⟩
     ·cases hy
    ·cases hy
   ·cases hy
  ·cases hk
 cases e with
 | normal=>exact key hk
 | ret=>exact key hk
 | exit i=>cases hk
 | goto l=>exact hk.elim
 | panic c=>exact hk.elim
 | outgrown=>exact hk.elim
end
theorem SCon.of_goal {P:Program} {cs:List Con} {ss:List SCon} (hm:P.follows .mixedOrders=true) (h:∀ c∈cs,c.Ok P) (hs:∀ c∈ss,c.Ok P) (c:SCon) {L:List LSh} {ms:List Nat} {lm:List (List Nat)} (hg:c.goal P (spS ss cs) L ms lm):c.Ok P:=by
 unfold SCon.goal at hg;split at hg
 ·rename_i ac n slots hc;unfold comp at hc;split at hc
  ·rename_i fn hf;split at hc
   ·cases hc
   ·rename_i hnm;split at hc
    ·rename_i code hb;split at hc
     ·rename_i ac' lm' slots' h1 h2;cases hc;refine SCon.prove c (q4g h hs) qls hm hf hb ?_ rfl h2 h1 hg;simp [qbw,hf,hnm,hb]
     ·cases hc
    ·cases hc
  ·cases hc
 ·exact hg.elim
theorem Con.of_goalS {P:Program} {cs:List Con} {ss:List SCon} (hm:P.follows .mixedOrders=true) (h:∀ c∈cs,c.Ok P) (hs:∀ c∈ss,c.Ok P) (c:Con) {L:List LSh} {ms:List Nat} {lm:List (List Nat)} (hg:c.goal P (spS ss cs) L ms lm):c.Ok P:=by
 unfold Con.goal at hg;split at hg
 ·rename_i ac n slots hc;unfold comp at hc;split at hc
  ·rename_i fn hf;split at hc
   ·cases hc
   ·rename_i hnm;split at hc
    ·rename_i code hb;split at hc
     ·rename_i ac' lm' slots' h1 h2;cases hc;refine Con.prove c (q4g h hs) qls hm hf hb ?_ rfl h2 h1 hg;simp [qbw,hf,hnm,hb]
     ·cases hc
    ·cases hc
  ·cases hc
 ·exact hg.elim
def mkS (f:FuncId) (ins:List TV) (ibl:List TB) (outs:List TV) (obl:List TB) (pre:Cur (ins.flatMap TV.ts++tsB ibl) (List Prop)) (F:Cur (ins.flatMap TV.ts++tsB ibl) (Dens (outs.flatMap TV.ts++tsB obl))):SCon :=
 ⟨f,ins,ibl,outs,obl,appC _ pre,appC _ F⟩
theorem okS0 {P:Program}:∀ c∈([]:List SCon),c.Ok P:=fun _ h=>nomatch h
theorem okS {P:Program} {c:SCon} {cs:List SCon} (h:c.Ok P) (hs:∀ x∈cs,x.Ok P):∀ x∈c::cs,x.Ok P:=fun x hx=>by
 rcases List.mem_cons.1 hx with rfl | hx
 ·exact h
 ·exact hs x hx
end Go.Ab
