/- Soundness,sixteenth part: one guarded operation as a step of a region. -/
import Derived.Test.YtieimmiiaabpgaaGreatAQ
import Derived.Orders
set_option linter.unusedVariables false
set_option linter.unusedSimpArgs false
namespace Go.Ab
section
variable {P:Program} {Γ:Cx} {H:List Hs} {w:World} {S:St} {a:Act}
theorem qnm {T:List AV} {d:Option Nat} {v:AV}:(setT T d v).length=T.length:=by cases d<;>simp [setT]
theorem q4a {a:Act} {d:Option Nat} {v:Value}:(a.put d v).tmps.size=a.tmps.size:=by cases d<;>simp [Act.put]
theorem qxm {a:Act} {d:Option Nat} {v:Value}:(a.put d v).defers=a.defers:=by cases d<;>rfl
theorem Emb.put (em:Emb Γ S a w) {Γ':Cx} {H':List Hs} {w':World} {d:Option Nat} {x:AV} {v:Value} (hx:Ext Γ S.H w Γ' H' w') (he:EmbH Γ' H' w') (hr:Ra w' Γ' x v):Emb Γ' ⟨setT S.T d x,H'⟩ (a.put d v) w':=by
 have hmono:∀ (y:AV) (u:Value),Ra w Γ y u→Ra w' Γ' y u:=fun y u h=>Rp.mono hx.mi (em.heap.keepI hx) hx.al y [u] h
 refine ⟨by rw [qxm];exact em.defers,by rw [q4a,qnm];exact em.size,fun i y hy=>?_,he⟩
 cases d with
 | none =>
  obtain ⟨u,h1,h2⟩:=em.tmp i y hy;exact ⟨u,h1,hmono _ _ h2⟩
 | some d =>
  simp only [setT,waw] at hy;simp only [Act.put];split at hy
  ·rename_i hdi;subst hdi;split at hy
   ·rename_i hlt;cases hy;refine ⟨v,?_,hr⟩;rw [Array.getElem?_setIfInBounds_self_of_lt (by rw [em.size];exact hlt)]
   ·cases hy
  ·rename_i hdi;obtain ⟨u,h1,h2⟩:=em.tmp i y hy;exact ⟨u,by rw [Array.getElem?_setIfInBounds_ne hdi];exact h1,hmono _ _ h2⟩
theorem Does.wp {Q:Exit→Act→World→Prop} {K:Act→World→Prop} {e:Ef} {o:Oper} (h:Does P Γ S.H w e ((execOp a.eval o).run P w))
  (hk:∀ (Γ':Cx) (w':World) (v:Value),Ext Γ S.H w Γ' (qar S.H e.up) w'→EmbH Γ' (qar S.H e.up) w'→Ra w' Γ' e.v v→K (a.put o.dst v) w'):o.wp P a w K Q:=by
 unfold Oper.wp
 rcases h with ⟨v,w',Γ',h | ⟨h,hv⟩,hx,he,hr⟩ | ⟨f,args,h,hc⟩
 ·rw [h];exact hk Γ' w' v hx he hr
 ·rw [h];subst hv;exact hk Γ' w' _ hx he hr
 ·rw [h];refine Calls.mono hc fun en w' hen=>?_
  obtain ⟨v,Γ',rfl,hx,he,hr⟩:=hen;exact hk Γ' w' v hx he hr
theorem getD_some {T:List AV} {d:Nat} (h:T.getD d .undef≠.undef):T[d]?=some (T.getD d .undef):=by
 rw [qm0] at h ⊢
 cases ht:T[d]? with
 | none=>rw [ht] at h;exact absurd rfl h
 | some x=>rfl
def qoj:List Hs→List (Nat×Hs)→Prop
 | _,[]=>True
 | H,p::up=>((p.2=.dead∧∃ B,H[p.1]?=some (.live B))∨(∃ (t:Ty) (opn:Bool),p.2=.live (.arr t [] opn)∧H[p.1]?=some .free)∨(∃ (b i:Nat) (f:Bool),p.2=.view b i f∧H[p.1]?=some .free∧Nest H b))∧qoj (H.set p.1 p.2) up
theorem qoj.emb {w:World}:∀ {up:List (Nat×Hs)} {H:List Hs} {Γ:Cx},qoj H up→EmbH Γ H w→∃ Γ',Ext Γ H w Γ' (qar H up) w∧EmbH Γ' (qar H up) w
 | [],H,Γ,_,em=>⟨Γ,Ext.refl _ _ _,em⟩
 | (b,h)::up,H,Γ,hs,em=>by
  obtain ⟨h1,h2⟩:=hs;have key:∃ Γ1,Ext Γ H w Γ1 (H.set b h) w∧EmbH Γ1 (H.set b h) w:=by
   rcases h1 with ⟨rfl,B,hB⟩ | ⟨t,opn,rfl,hf⟩ | ⟨b',i,f,rfl,hf,hN⟩
   ·obtain ⟨g1,g2⟩:=em.kill hB;exact ⟨Γ,g2,g1⟩
   ·obtain ⟨g1,g2⟩:=em.alloc (w':=w) (c:=0) (B:=.arr t [] opn) hf (fun _ _=>rfl) (wad _) rfl rfl (by
     simp only [RepB,Cx.new,qas];exact ⟨by simp,by simp,fun h=>absurd rfl h⟩)
    exact ⟨_,g2,g1⟩
   ·obtain ⟨g1,g2⟩:=em.addView (i:=i) (f:=f) hf hN;exact ⟨_,g2,g1⟩
  obtain ⟨Γ1,g1,g2⟩:=key;obtain ⟨Γ2,g3,g4⟩:=h2.emb g2;exact ⟨Γ2,g1.trans g3,g4⟩
theorem qvp {x:Nat}:∀ {l:List Nat},hasN x l=true→x∈l
 | [],h=>by simp [hasN] at h
 | y::l,h=>by
  simp only [hasN,wbe] at h
  rcases h with h | h
  ·have:=wai h;subst this;exact way ..
  ·exact wam _ (qvp h)
theorem qwl {rd:List Nat}:∀ {up:List (Nat×Hs)},vwRd rd up=true→∀ p∈up,∀ b i f,p.2=.view b i f→b∈rd
 | [],_,p,hp,_,_,_,_=>by cases hp
 | q::up,h,p,hp,b,i,f,hv=>by
  simp only [vwRd] at h
  rcases List.mem_cons.1 hp with rfl | hp
  ·rw [hv] at h;simp only [wa3] at h;exact qvp h.1
  ·refine qwl ?_ p hp b i f hv;split at h
   ·simp only [wa3] at h;exact h.2
   ·exact h
theorem qoj.congr:∀ {up:List (Nat×Hs)} {H H':List Hs},(∀ p∈up,H'[p.1]?=H[p.1]?∧∀ b i f,p.2=.view b i f→H'[b]?=H[b]?)→qoj H up→qoj H' up
 | [],_,_,_,_=>trivial
 | p::up,H,H',he,hs=>by
  obtain ⟨h1,h2⟩:=hs;obtain ⟨e1,e2⟩:=he p (way ..);have hl:∃ x,H[p.1]?=some x:=by
   rcases h1 with ⟨_,B,hB⟩ | ⟨_,_,_,hf⟩ | ⟨_,_,_,_,hf,_⟩
   ·exact ⟨_,hB⟩
   ·exact ⟨_,hf⟩
   ·exact ⟨_,hf⟩
  obtain ⟨x,hx⟩:=hl;have l1:p.1<H.length:=by
   rcases Nat.lt_or_ge p.1 H.length with h | h
   ·exact h
   ·rw [wac h] at hx;cases hx
  have l2:p.1<H'.length:=by
   rw [hx] at e1
   rcases Nat.lt_or_ge p.1 H'.length with h | h
   ·exact h
   ·rw [wac h] at e1;cases e1
  have hset:∀ b,H'[b]?=H[b]?→(H'.set p.1 p.2)[b]?=(H.set p.1 p.2)[b]?:=fun b hb=>by
   rw [waw,waw]
   by_cases hpq:p.1=b
   ·simp only [hpq,if_true];rw [← hpq,if_pos l1,if_pos l2]
   ·simp only [hpq,if_false];exact hb
  refine ⟨?_,qoj.congr (fun q hq=>?_) h2⟩
  ·rcases h1 with h | h | ⟨b,i,f,h3,h4,⟨t,r,o,h5⟩⟩
   ·rw [e1];exact .inl h
   ·rw [e1];exact .inr (.inl h)
   ·exact .inr (.inr ⟨b,i,f,h3,by rw [e1];exact h4,t,r,o,by rw [e2 b i f h3];exact h5⟩)
  ·obtain ⟨q1,q2⟩:=he q (wam _ hq);exact ⟨hset _ q1,fun b i f hb=>hset _ (q2 b i f hb)⟩
theorem qnc:∀ {up:List (Nat×Hs)} {H:List Hs} {l:List (Nat×Hs)},qjf true H up=some l→l=up
 | [],H,l,h=>by simp only [qjf,waz] at h;exact h.symm
 | p::up,H,l,h=>by
  simp only [qjf] at h;split at h
  ·rename_i x hx;split at h
   ·rename_i l' hl;cases h;have:x=p.2:=by
     obtain ⟨b,hb⟩:=p;simp only [q2a] at hx
     cases hb with
     | free=>simp at hx
     | dead=>simp only at hx;split at hx<;>cases hx;rfl
     | live B=>cases B with
      | arr t xs opn=>simp only at hx;split at hx<;>cases hx;rfl
      | _=>simp at hx
     | view b' i f=>simp only at hx;split at hx<;>cases hx;rfl
    rw [qnc hl,this]
   ·cases h
  ·cases h
theorem qle:∀ {up:List (Nat×Hs)} {H:List Hs} {l:List (Nat×Hs)},qjf false H up=some l→qoj H l
 | [],H,l,h=>by simp only [qjf,waz] at h;subst h;trivial
 | p::up,H,l,h=>by
  simp only [qjf] at h;split at h
  ·rename_i x hx;split at h
   ·rename_i l' hl;cases h;refine ⟨?_,qle hl⟩;obtain ⟨b,hb⟩:=p;simp only [q2a] at hx
    cases hb with
    | free=>simp at hx
    | dead =>
     simp only at hx;split at hx
     ·rename_i B hB;cases hx;exact .inl ⟨rfl,B,hB⟩
     ·cases hx
    | live B=>cases B with
     | arr t xs opn =>
      simp only at hx;split at hx
      ·rename_i hB;cases hx;exact .inr (.inl ⟨t,opn,rfl,hB⟩)
      ·cases hx
     | _=>simp at hx
    | view b' i f =>
     simp only at hx;split at hx
     ·rename_i t r o hB hg;cases hx;exact .inr (.inr ⟨b',i,f,rfl,hB,_,_,_,qaw hg⟩)
     ·cases hx
   ·cases h
  ·cases h
def GRel (sp:Spec) (base:Nat) (S:St) (o:AOp) (e:Ef):Prop :=
  match o.g with
  | none=>allP (aeff sp base S.T S.H o.op).ob∧e.v=(aeff sp base S.T S.H o.op).v∧e.up=(aeff sp base S.T S.H o.op).up
  | some (d, want) => ∃ (c:Bool) (y : AV), qeu want (S.T.getD d .undef) = some c ∧ e.v = .gd c y ∧
      (((c=true→e.up=(aeff sp base S.T S.H o.op).up∧allP (aeff sp base S.T S.H o.op).ob∧y=(aeff sp base S.T S.H o.op).v)∧(c=false→qoj S.H e.up)) ∨
       ∃ (p:List Prop) (f:FuncId) (k:Nat) (args:List AV),qdc S.T o.op=some (p,f,k,args)∧(c=true→allP p)∧allP (sp f S.H (base+k) (mark c::args)).ob ∧
         y=(sp f S.H (base+k) (mark c::args)).v∧e.up=(sp f S.H (base+k) (mark c::args)).up)
def GRd (sp:Spec) (base:Nat) (S:St) (o:AOp) (e:Ef):Prop :=
  match o.g with
  | none=>e.rd=(aeff sp base S.T S.H o.op).rd
  | some (d, want) => ∃ (c:Bool) (y : AV), qeu want (S.T.getD d .undef) = some c ∧ e.v = .gd c y ∧
      (((c=true→e.up=(aeff sp base S.T S.H o.op).up∧allP (aeff sp base S.T S.H o.op).ob∧y=(aeff sp base S.T S.H o.op).v)∧(c=false→qoj S.H e.up∧∀ p∈e.up,∀ b i f,p.2=.view b i f→b∈e.rd)∧e.rd=(aeff sp base S.T S.H o.op).rd) ∨
       ∃ (p:List Prop) (f:FuncId) (k:Nat) (args:List AV),qdc S.T o.op=some (p,f,k,args)∧(c=true→allP p)∧allP (sp f S.H (base+k) (mark c::args)).ob ∧
         y=(sp f S.H (base+k) (mark c::args)).v∧e.up=(sp f S.H (base+k) (mark c::args)).up∧e.rd=(sp f S.H (base+k) (mark c::args)).rd)
theorem qw8 {sp:Spec} {base:Nat} {o:AOp} (hob:allP (geff sp base S.T S.H o).ob):GRd sp base S o (geff sp base S.T S.H o):=by
 obtain ⟨dst,op,g⟩:=o
 cases g with
 | none=>simp only [GRd,geff]
 | some dw =>
  obtain ⟨d,want⟩:=dw;simp only [geff,GRd] at hob ⊢
  cases hp:qeu want (S.T.getD d .undef) with
  | none=>rw [hp] at hob;exact qaa hob
  | some c =>
   rw [hp] at hob;simp only at hob ⊢
   cases hup:(aeff sp base S.T S.H op).up with
   | nil =>
    rw [hup] at hob;simp only at hob ⊢;exact ⟨c,(aeff sp base S.T S.H op).v,by first | rfl | trivial,by first | rfl | trivial,.inl ⟨fun h=>⟨by first | rfl | trivial,qe6.1 hob h,by first | rfl | trivial⟩,fun _=>⟨trivial,fun p hp=>(by cases hp)⟩,by first | rfl | trivial⟩⟩
   | cons u us =>
    rw [hup] at hob;simp only at hob ⊢
    cases hcl:qdc S.T op with
    | some x =>
     obtain ⟨p,f,k,args⟩:=x;rw [hcl] at hob;simp only at hob ⊢;obtain ⟨o1,o2⟩:=qag.1 hob;exact ⟨c,_,rfl,rfl,.inr ⟨p,f,k,args,rfl,qe6.1 o1,o2,rfl,rfl,rfl⟩⟩
    | none =>
     rw [hcl] at hob;simp only at hob ⊢
     cases hsk:qjf c S.H (u::us) with
     | none=>rw [hsk] at hob;exact qaa hob
     | some l =>
      rw [hsk] at hob;simp only at hob ⊢
      cases hvr:vwRd (aeff sp base S.T S.H op).rd l with
      | false=>rw [hvr] at hob;exact qaa hob
      | true =>
      rw [hvr] at hob;simp only at hob ⊢;refine ⟨c,(aeff sp base S.T S.H op).v,by first | rfl | trivial,by first | rfl | trivial,.inl ⟨fun h=>⟨?_,qe6.1 hob h,by first | rfl | trivial⟩,fun h=>?_,by first | rfl | trivial⟩⟩
      ·subst h;exact qnc hsk
      ·subst h;exact ⟨qle hsk,qwl hvr⟩
theorem GRd.rel {sp:Spec} {base:Nat} {o:AOp} {e:Ef} (h:GRd sp base S o e) (hn:o.g=none→allP (aeff sp base S.T S.H o.op).ob∧e.v=(aeff sp base S.T S.H o.op).v∧e.up=(aeff sp base S.T S.H o.op).up):GRel sp base S o e:=by
 obtain ⟨dst,op,g⟩:=o
 cases g with
 | none=>exact hn rfl
 | some dw =>
  obtain ⟨d,want⟩:=dw;obtain ⟨c,y,h1,h2,h3⟩:=h;refine ⟨c,y,h1,h2,?_⟩
  rcases h3 with ⟨h3,h4,_⟩ | ⟨p,f,k,args,h3,h4,h5,h6,h7,_⟩
  ·exact .inl ⟨h3,fun h=>(h4 h).1⟩
  ·exact .inr ⟨p,f,k,args,h3,h4,h5,h6,h7⟩
theorem qv6 {sp:Spec} {base:Nat} {o:AOp} (hob:allP (geff sp base S.T S.H o).ob):GRel sp base S o (geff sp base S.T S.H o):=by
 refine (qw8 hob).rel fun hn=>?_
 obtain ⟨dst,op,g⟩:=o;simp only at hn;subst hn;exact ⟨hob,rfl,rfl⟩
theorem q5p {want c:Bool}:∀ {x:AV},qeu want x=some c→x≠.undef
 | .undef,h=>by simp [qeu] at h
 | .val ..,_ | .gd ..,_ | .opt ..,_ | .anyb ..,_ | .ref ..,_ | .sl ..,_ | .vsl ..,_ | .mref _,_ | .fn ..,_ | .tup _,_ | .agg _,_ | .nil,_ | .cons ..,_=>by simp
theorem qnf {w:World} {Γ:Cx} {want:Bool}:∀ {x:AV} {c:Bool} {v:Value},qeu want x=some c→Ra w Γ x v→(c=true→v=.bool want)∧(c=false→v≠.bool want)
 | .val t x,c,v,h,hr=>by
  cases t with
  | bool =>
   simp only [qeu,waz] at h;have:=qcs.1 hr;subst this;subst h;constructor
   ·intro h;cases want<;>cases x<;>simp at h ⊢
   ·intro h;cases want<;>cases x<;>simp at h ⊢
  | _=>simp [qeu] at h
 | .gd b x,c,v,h,hr=>by
  simp only [qeu] at h;split at h
  ·rename_i c' hc;cases h;simp only [Ra,Rp] at hr
   cases b with
   | true =>
    have:=qnf hc (hr.2.1 rfl);simpa using this
   | false =>
    have h1:=hr.2.2 rfl;simp only [wa0,and_true] at h1;subst h1;exact ⟨fun h=>by simp at h,fun _ h=>by cases h⟩
  ·cases h
 | .undef,c,v,h,_=>by simp [qeu] at h
 | .opt ..,c,v,h,_=>by simp [qeu] at h
 | .anyb ..,c,v,h,_=>by simp [qeu] at h
 | .ref ..,c,v,h,_=>by simp [qeu] at h
 | .sl ..,c,v,h,_=>by simp [qeu] at h
 | .vsl ..,c,v,h,_=>by simp [qeu] at h
 | .mref _,c,v,h,_=>by simp [qeu] at h
 | .fn ..,c,v,h,_=>by simp [qeu] at h
 | .tup _,c,v,h,_=>by simp [qeu] at h
 | .agg _,c,v,h,_=>by simp [qeu] at h
 | .nil,c,v,h,_=>by simp [qeu] at h
 | .cons ..,c,v,h,_=>by simp [qeu] at h
def qxc:Value→Option Bool
 | .bool b=>some b
 | _=>none
theorem qr6 {v:Value} {want:Bool}:qxc v=some want↔v=.bool want:=by
 cases v<;>simp [qxc]
theorem qg6 (em:Emb Γ S a w) {sp:Spec} (hsp:SpecOk P sp) (base:Nat) {ms:List Nat} {ops:Array Oper} {i:Nat} {o:Oper} (hi:ops[i]?=some o) {k:Nat} {ao:AO} {g:Option (Nat×Bool)} (h:cOp P ms o k=some ao) (hg:qqm ops o.guard=some g)
  {e:Ef} (hrel:GRel sp base S ⟨o.dst,ao,g⟩ e) {Q:Exit→Act→World→Prop} {K:Act→World→Prop}
  (hk:∀ (Γ':Cx) (a':Act) (w':World),Ext Γ S.H w Γ' (qar S.H e.up) w'→Emb Γ' ⟨setT S.T o.dst e.v,qar S.H e.up⟩ a' w'→K a' w') :
  wpOp P ops Q i K a w:=by
 unfold wpOp;rw [hi];simp only
 cases hgo:o.guard with
 | none =>
  rw [hgo] at hg;simp only [qqm,waz] at hg;subst hg;have hw:Region.wanted o (yielded ops a.tmps)=true:=by simp [Region.wanted,hgo]
  rw [if_pos hw];obtain ⟨h1,h2,h3⟩:=hrel;refine .inl (Does.wp (qwr em hsp base h h1) fun Γ' w' v hx he hr=>hk Γ' _ w' ?_ (em.put ?_ ?_ ?_))
  ·rw [h3];exact hx
  ·rw [h3];exact hx
  ·rw [h3];exact he
  ·rw [h2];exact hr
 | some jw =>
  obtain ⟨j,want⟩:=jw;rw [hgo] at hg;simp only [qqm] at hg;split at hg
  ·rename_i d hd;cases hg;obtain ⟨c,y,hp,hev,h2⟩:=hrel;rw [hev] at hk;obtain ⟨v,hv,hr⟩:=em.tmp d _ (getD_some (q5p hp));obtain ⟨s1,s2⟩:=qnf hp hr;have hy:yielded ops a.tmps j=qxc v:=by
    simp only [yielded,hd,Option.bind_some,hv];cases v<;>rfl
   cases c with
   | true =>
    have hw:Region.wanted o (yielded ops a.tmps)=true:=by
     have:=s1 rfl;subst this;simp [Region.wanted,hgo,hy,qxc]
    rw [if_pos hw];have hdo:Does P Γ S.H w ⟨[],y,e.up,[]⟩ ((execOp a.eval o).run P w):=by
     rcases h2 with ⟨h2,_⟩ | ⟨p,f,k',args,q1,q2,q3,q4,q5⟩
     ·obtain ⟨g1,g2,g3⟩:=h2 rfl;have hdo:=qwr em hsp base h g2;unfold Does at hdo ⊢;simp only [g1,g3];exact hdo
     ·obtain ⟨vs,hf,hen⟩:=qsd em h q1 (q2 rfl);obtain ⟨m1,_⟩:=hsp.mrk _ _ _ _ _ q3;obtain ⟨m1,m2⟩:=m1 rfl;refine .inr ⟨f,vs.toArray,hen m1,?_⟩;simp only [q4,q5];exact m2 Γ w vs em.heap hf
    refine .inl (Does.wp hdo fun Γ' w' v hx he hr=>hk Γ' _ w' hx (em.put hx he ?_))
    simp only [Ra,Rp];exact ⟨⟨v,rfl⟩,fun _=>hr,fun h=>by cases h⟩
   | false =>
    have hw:¬ Region.wanted o (yielded ops a.tmps)=true:=by
     have:=s2 rfl;intro hh;simp only [Region.wanted,hgo,hy,beq_iff_eq] at hh;exact this (qr6.1 hh)
    rw [if_neg hw];have hsk:∃ Γ',Ext Γ S.H w Γ' (qar S.H e.up) w∧EmbH Γ' (qar S.H e.up) w:=by
     rcases h2 with ⟨_,h2⟩ | ⟨p,f,k',args,q1,q2,q3,q4,q5⟩
     ·exact (h2 rfl).emb em.heap
     ·rw [q5];exact (hsp.mrk _ _ _ _ _ q3).2 rfl Γ w em.heap
    obtain ⟨Γ',hx,he⟩:=hsk;refine hk Γ' _ w hx (em.put hx he ?_);simp only [Ra,Rp];exact ⟨⟨_,rfl⟩,by simp⟩
  ·cases hg
structure Inf where
 i:Nat
 dst:Option Nat
 uses:List Nat
 rd:List Nat
 ups:List Nat
def Od.use:Od→List Nat
 | .t n=>[n]
 | .k _=>[]
def qpd:Option Od→List Nat
 | none=>[]
 | some x=>x.use
def AO.use:AO→List Nat
 | .mv x | .not x | .neg x | .load _ x | .loadh _ _ _ x | .box _ _ x | .boxm _ _ x | .nilc x | .snil _ _ x | .fld _ _ x | .fldv _ _ x | .flda _ x | .ext x _ | .len x | .conv _ x=>x.use
 | .pick c a b=>c.use++a.use++b.use
 | .bin _ x y | .eqv _ _ x y | .store _ x y | .ixs _ x y | .ixa _ _ x y | .ixv _ _ x y | .append _ _ _ x y | .cpy _ x y=>x.use++y.use
 | .build _ _ _ ps=>ps.flatMap fun p=>p.2.2.use
 | .alloc ..=>[]
 | .slc _ x lo hi mx=>x.use++qpd lo++qpd hi++qpd mx
 | .sla _ _ x lo hi=>x.use++qpd lo++qpd hi
 | .call _ _ l | .mkfn _ l | .bslice _ l | .bslicem _ _ l | .bslicef _ _ l=>l.flatMap Od.use
 | .callv _ g l=>g.use++l.flatMap Od.use
 | .mm _ x l=>x.use++l.flatMap Od.use
 | .lookup _ _ _ x i _=>x.use++i.use
 | .mapup _ _ m k v=>m.use++k.use++v.use
 | .mkmap ..=>[]
 | .nnest ..=>[]
 | .mkslice _ _ _ _ n c | .mkslicec _ _ _ _ n c | .mknest _ _ _ n c | .slct _ n c=>n.use++c.use
def AOp.use (o:AOp):List Nat:=o.op.use++(match o.g with | some (d,_)=>[d] | none=>[])
def St.step (S:St) (d:Option Nat) (e:Ef):St:=⟨setT S.T d e.v,qar S.H e.up⟩
def q7o (i:Nat) (o:AOp) (e:Ef):Inf:=⟨i,o.dst,o.use,e.rd,e.up.map (·.1)⟩
structure RR where
 ob:List Prop
 S:St
 inf:List Inf
noncomputable def runL (sp:Spec) (base:Nat):Nat→List AOp→St→RR
 | _,[],S=>⟨[],S,[]⟩
 | i,o::os,S =>
  match geff sp base S.T S.H o with
  | e=>match runL sp base (i+1) os (S.step o.dst e) with
   | r=>⟨e.ob++r.ob,r.S,q7o i o e::r.inf⟩
theorem qes {sp:Spec} {base i:Nat} {o:AOp} {os:List AOp}:runL sp base i (o::os) S =
  ⟨(geff sp base S.T S.H o).ob++(runL sp base (i+1) os (S.step o.dst (geff sp base S.T S.H o))).ob,(runL sp base (i+1) os (S.step o.dst (geff sp base S.T S.H o))).S,q7o i o (geff sp base S.T S.H o)::(runL sp base (i+1) os (S.step o.dst (geff sp base S.T S.H o))).inf⟩:=rfl
theorem qtt {ms:List Nat} {all:Array Oper} {o:Oper} {os:List Oper} {k m:Nat} {l:List AOp} (h:cReg P ms all (o::os) k=some (l,m)) :
  ∃ ao g l',l=⟨o.dst,ao,g⟩::l'∧cOp P ms o k=some ao∧qqm all o.guard=some g∧cReg P ms all os (k+ao.na)=some (l',m):=by
 simp only [cReg] at h;split at h
 ·rename_i ao g h1 h2;split at h
  ·rename_i l' m' h3;cases h;exact ⟨ao,g,l',rfl,h1,h2,h3⟩
  ·cases h
 ·cases h
theorem qsr {sp:Spec} (hsp:SpecOk P sp) (base:Nat) {ms:List Nat} {ops:Array Oper} {Q:Exit→Act→World→Prop}:∀ (n i k m:Nat) (l:List AOp),i+n=ops.size→cReg P ms ops (ops.toList.drop i) k=some (l,m) →
  ∀ (j:Nat) (Γ:Cx) (S:St) (a:Act) (w:World),Emb Γ S a w→allP (runL sp base j l S).ob →
   (∀ Γ' a' w',Ext Γ S.H w Γ' (runL sp base j l S).S.H w'→Emb Γ' (runL sp base j l S).S a' w'→Q .normal a' w')→wpOps P ops Q (List.range' i n) a w
 | 0,i,k,m,l,hi,hc,j,Γ,S,a,w,em,hob,hq=>by
  have:ops.toList.drop i=[]:=by rw [List.drop_eq_nil_iff];simp;omega
  rw [this] at hc;simp only [cReg,waz,wa1] at hc;obtain ⟨rfl,_⟩:=hc;exact hq Γ a w (Ext.refl _ _ _) em
 | n+1,i,k,m,l,hi,hc,j,Γ,S,a,w,em,hob,hq=>by
  have hlt:i<ops.size:=by omega
  have hd:ops.toList.drop i=ops[i]::ops.toList.drop (i+1):=by rw [List.drop_eq_getElem_cons (by simpa using hlt)];simp
  rw [hd] at hc;obtain ⟨ao,g,l',rfl,h1,h2,h3⟩:=qtt hc;rw [qes] at hob hq;obtain ⟨o1,o2⟩:=qag.1 hob;rw [List.range'_succ,wpOps_cons];refine qg6 em hsp base (Array.getElem?_eq_getElem hlt) h1 h2 (qv6 o1) fun Γ' a' w' hx em'=>?_
  exact qsr hsp base n (i+1) _ m l' (by omega) h3 (j+1) Γ' _ a' w' em' o2 fun Γ'' a'' w'' hx' em''=>hq Γ'' a'' w'' (hx.trans hx') em''
end
def Eqs (T T':List AV) (l:List Nat):Prop:=∀ n∈l,T.getD n .undef=T'.getD n .undef
section
variable {T T':List AV}
theorem Eqs.left {l m:List Nat} (h:Eqs T T' (l++m)):Eqs T T' l:=fun n hn=>h n (wbg _ hn)
theorem Eqs.right {l m:List Nat} (h:Eqs T T' (l++m)):Eqs T T' m:=fun n hn=>h n (wbh _ hn)
theorem qaz {x:Od} (h:Eqs T T' x.use):ev T x=ev T' x:=by
 cases x with
 | t n=>exact h n (by simp [Od.use])
 | k a=>rfl
theorem qi7 {x:Option Od} (h:Eqs T T' (qpd x)):optI T x=optI T' x:=by
 cases x with
 | none=>rfl
 | some x=>simp only [optI,qaz h]
theorem qkg:∀ {l:List Od},Eqs T T' (l.flatMap Od.use)→l.map (ev T)=l.map (ev T')
 | [],_=>rfl
 | x::l,h=>by
  rw [wbm] at h;rw [wbd,wbd,qaz h.left,qkg h.right]
theorem qhm {te:Ty}:∀ {l:List Od},Eqs T T' (l.flatMap Od.use)→qdn te T l=qdn te T' l
 | [],_=>rfl
 | x::l,h=>by
  rw [wbm] at h;simp only [qdn,qaz h.left,qhm h.right]
theorem q3z {H:List Hs} {te:Ty}:∀ {l:List Od},Eqs T T' (l.flatMap Od.use)→frzL H T te l=frzL H T' te l
 | [],_=>rfl
 | [.k _],_=>rfl
 | [.t j],h=>by
  have h1:Eqs T T' (Od.t j).use:=by simpa using h
  have:=qaz h1;simp only [ev] at this;simp only [frzL,this]
 | x::y::l,_=>by rw [qjt,qjt]
theorem q5n {H:List Hs} {nw:Nat} {te:Ty}:∀ {l:List Od},Eqs T T' (l.flatMap Od.use)→litL H nw te T l=litL H nw te T' l
 | [],_=>rfl
 | [x],h=>by
  have h1:Eqs T T' x.use:=by simpa using h
  simp only [litL,qaz h1]
 | x::y::l,_=>rfl
theorem qsn {mx:Bool} {k:IntKind}:∀ {l:List Od} {a:Int},Eqs T T' (l.flatMap Od.use)→qqt mx k T a l=qqt mx k T' a l
 | [],_,_=>rfl
 | x::l,a,h=>by
  rw [wbm] at h;simp only [qqt,qaz h.left,qsn h.right]
theorem qim:∀ {ps:List (Nat×Ty×Od)} {z:List AV},Eqs T T' (ps.flatMap fun p=>p.2.2.use)→qc1 T z ps=qc1 T' z ps
 | [],_,_=>rfl
 | (off,te,x)::ps,z,h=>by
  rw [wbm] at h;simp only [qc1,qaz h.left];split
  ·split
   ·exact qim h.right
   ·rfl
  ·rfl
theorem q34 {sp:Spec} {base:Nat} {H:List Hs} {op:AO} (h:Eqs T T' op.use):aeff sp base T H op=aeff sp base T' H op:=by
 cases op<;>simp only [AO.use] at h
 case mv x=>rw [aeff,aeff,qaz h]
 case pick c a b=>rw [aeff,aeff,qaz h.left.left,qaz h.left.right,qaz h.right]
 case bin op x y=>rw [aeff,aeff,qaz h.left,qaz h.right]
 case eqv n t x y=>rw [aeff,aeff,qaz h.left,qaz h.right]
 case not x=>rw [aeff,aeff,qaz h]
 case neg x=>rw [aeff,aeff,qaz h]
 case build t fl z ps=>rw [aeff,aeff,qim h]
 case load t x=>rw [aeff,aeff,qaz h]
 case store t x v=>rw [aeff,aeff,qaz h.left,qaz h.right]
 case alloc k B=>rw [aeff,aeff]
 case box k t x=>rw [aeff,aeff,qaz h]
 case boxm k t x=>rw [aeff,aeff,qaz h]
 case nilc x=>rw [aeff,aeff,qaz h]
 case snil neg one x=>rw [aeff,aeff,qaz h]
 case fld off te x=>rw [aeff,aeff,qaz h]
 case fldv off te x=>rw [aeff,aeff,qaz h]
 case ixs te x i=>rw [aeff,aeff,qaz h.left,qaz h.right]
 case ixa n te x i=>rw [aeff,aeff,qaz h.left,qaz h.right]
 case ixv n te x i=>rw [aeff,aeff,qaz h.left,qaz h.right]
 case slc te x lo hi mx=>rw [aeff,aeff,qaz h.left.left.left,qi7 h.left.left.right,qi7 h.left.right,qi7 h.right]
 case sla n te x lo hi=>rw [aeff,aeff,qaz h.left.left,qi7 h.left.right,qi7 h.right]
 case ext x i=>rw [aeff,aeff,qaz h]
 case call k f l=>rw [aeff,aeff,qkg h]
 case callv k g l=>rw [aeff,aeff,qaz h.left,qkg h.right]
 case len x=>rw [aeff,aeff,qaz h]
 case mm mx x l=>rw [aeff,aeff,qaz h.left];simp only [qsn h.right]
 case conv k x=>rw [aeff,aeff,qaz h]
 case mkfn f l=>rw [aeff,aeff,qkg h]
 case bslice te l=>rw [aeff,aeff,qhm h,q3z h]
 case bslicem k te l=>rw [aeff,aeff,qhm h,q5n h]
 case bslicef k te l=>rw [aeff,aeff,qhm h]
 case append k te b x y=>rw [aeff,aeff,qaz h.left,qaz h.right]
 case lookup kt vt d x i ok=>rw [aeff,aeff,qaz h.left,qaz h.right]
 case mapup kt vt m k v=>rw [aeff,aeff,qaz h.left.left,qaz h.left.right,qaz h.right]
 case mkmap k kt vt=>rw [aeff,aeff]
 case nnest k te=>rw [aeff,aeff]
 case mkslice k te z b n c=>rw [aeff,aeff,qaz h.left,qaz h.right]
 case mkslicec k te z b n c=>rw [aeff,aeff,qaz h.left,qaz h.right]
 case loadh k f t x=>rw [aeff,aeff,qaz h]
 case slct te x n=>rw [aeff,aeff,qaz h.left,qaz h.right]
 case mknest k te b n c=>rw [aeff,aeff,qaz h.left,qaz h.right]
 case cpy te x y=>rw [aeff,aeff,qaz h.left,qaz h.right]
 case flda off x=>rw [aeff,aeff,qaz h]
theorem qxq {op:AO} (h:Eqs T T' op.use):qdc T op=qdc T' op:=by
 cases op<;>simp only [AO.use] at h<;>try rfl
 case call k f l=>simp only [qdc,qkg h]
 case callv k g l=>simp only [qdc,qaz h.left,qkg h.right]
end
def Ef.sim (e e':Ef):Prop:=e'.ob=e.ob∧e'.v=e.v∧e'.up=e.up
def qec (H H':List Hs) (e:Ef):Prop:=(∀ b∈e.rd,H'[b]?=H[b]?)∧∀ p∈e.up,H'[p.1]?=H[p.1]?
def qcu (sp:Spec):Prop:=∀ (f:FuncId) (H H':List Hs) (base:Nat) (args:List AV),allP (sp f H base args).ob→qec H H' (sp f H base args)→Ef.sim (sp f H base args) (sp f H' base args)
section
variable {H H':List Hs}
theorem Ef.sim.refl (e:Ef):Ef.sim e e:=⟨rfl,rfl,rfl⟩
theorem qax {b:Nat} (h:H'[b]?=H[b]?):hget H' b=hget H b:=by simp only [hget,h]
theorem qa4 {b:Nat} (h:H'[b]?=H[b]?):qay H' b=qay H b:=by simp only [qay,h]
theorem qec.up {e:Ef} (h:qec H H' e) {k:Nat} (hm:k∈e.up.map (·.1)):H'[k]?=H[k]?:=by
 obtain ⟨p,hp,rfl⟩:=List.mem_map.1 hm;exact h.2 p hp
structure Lives (H H':List Hs):Prop where
 hg:∀ b B,hget H b=some B→hget H' b=some B
 hv:∀ (m b i:Nat) (f:Bool),H[m]?=some (.view b i f)→H'[m]?=some (.view b i f)
theorem Lives.hres (h:Lives H H') {b:Nat} {B:Blk} (hc:hres H b=some B):hres H' b=some B:=by
 unfold Ab.hres at hc ⊢;split at hc
 ·rename_i B' hb;have:=h.hg b B' (by simp only [hget,hb])
  rw [qaw this];exact hc
 ·rename_i n i f hb;rw [h.hv _ _ _ _ hb];simp only;split at hc
  ·rename_i t rows ho hn;rw [h.hg _ _ hn];exact hc
  ·cases hc
 ·cases hc
theorem Lives.cellsAt (h:Lives H H') {b j n:Nat} {vs:List AV} (hc:cellsAt H b j n=some vs):cellsAt H' b j n=some vs:=by
 unfold Ab.cellsAt at hc ⊢;split at hc
 ·rename_i vs hb;rw [h.hg _ _ hb];exact hc
 ·cases hc
theorem Lives.arrElems (h:Lives H H') {e:Ty} {b s:Nat} {ys:List (Den e)} (hc:arrElems H e b s=some ys):arrElems H' e b s=some ys:=by
 unfold Ab.arrElems at hc ⊢;split at hc
 ·rename_i hb;rw [h.hres hb];exact hc
 ·rename_i hb;rw [h.hres hb];exact hc
 ·cases hc
theorem Lives.arrAt (h:Lives H H') {e:Ty} {b s i o:Nat} {r:List Prop×Den e} (hc:arrAt H e b s i o=some r):arrAt H' e b s i o=some r:=by
 unfold Ab.arrAt at hc ⊢;split at hc
 ·rename_i hb;rw [h.hres hb];exact hc
 ·cases hc
theorem qsv {e:Ty} {b s i o:Nat} {r:List Prop×Den e} (hc:arrAt H e b s i o=some r):∃ te xs opn,hres H b=some (.arr te xs opn):=by
 unfold Ab.arrAt at hc;split at hc
 ·rename_i hb;exact ⟨_,_,_,hb⟩
 ·cases hc
theorem qlp {b j n:Nat} {te:Ty} {xs:List (Den te)} {opn:Bool} (h:hres H b=some (.arr te xs opn)):cellsAt H b j n=none:=by
 unfold Ab.cellsAt;split
 ·rename_i vs hb;rw [qms hb] at h;cases h
 ·rfl
theorem qfg (h:Lives H H'):∀ (t:Ty) (cs:List AV) (r:List Prop×Den t),rv H t cs=some r→rv H' t cs=some r
 | .unit,cs,r,hr=>by simpa only [rv] using hr
 | .prod a b,cs,r,hr=>by
  simp only [rv] at hr ⊢;split at hr
  ·rename_i p x q y h1 h2;rw [qfg h a _ _ h1,qfg h b _ _ h2];exact hr
  ·cases hr
 | .slice e,cs,r,hr=>by
  simp only [rv] at hr ⊢;split at hr
  ·exact hr
  ·exact hr
  ·exact hr
  ·exact hr
  ·rename_i b s i len c
   try dsimp only at hr ⊢
   split at hr
   ·rename_i ys hy;rw [h.arrElems hy];exact hr
   ·cases hr
  ·cases hr
 | .optr e,cs,r,hr=>by
  simp only [rv] at hr ⊢;split at hr
  ·exact hr
  ·rename_i b s i o
   try dsimp only at hr ⊢
   split at hr
   ·rename_i vs hv;rw [h.cellsAt hv]
    cases hx:rv H e vs with
    | none=>rw [hx] at hr;cases hr
    | some r'=>rw [hx] at hr;simp only [qfg h e _ _ hx];exact hr
   ·rename_i hn
    cases hx:arrAt H e b s i o with
    | none=>rw [hx] at hr;cases hr
    | some r' =>
     obtain ⟨te,xs,opn,hb⟩:=qsv hx;rw [hx] at hr;simp only [qlp (h.hres hb),h.arrAt hx];exact hr
  ·cases hr
 | .ptr e,cs,r,hr=>by
  simp only [rv] at hr ⊢;split at hr
  ·exact hr
  ·rename_i b s i o
   try dsimp only at hr ⊢
   split at hr
   ·rename_i vs hv;rw [h.cellsAt hv];exact qfg h e _ _ hr
   ·rename_i hn;obtain ⟨te,xs,opn,hb⟩:=qsv hr;simp only [qlp (h.hres hb)];exact h.arrAt hr
  ·cases hr
 | .map k v,cs,r,hr=>by
  simp only [rv] at hr ⊢;split at hr
  ·exact hr
  ·rename_i b
   try dsimp only at hr ⊢
   split at hr
   ·rename_i k' v' es hb;rw [h.hg _ _ hb];exact hr
   ·cases hr
  ·cases hr
 | .int k,cs,r,hr=>by simpa only [rv] using hr
 | .bool,cs,r,hr=>by simpa only [rv] using hr
 | .oth,cs,r,hr=>by simpa only [rv] using hr
theorem qd5:∀ {H:List Hs} {n b:Nat} {x:Hs},H[b]?=some x→x≠.free→x≠.dead→n+b∈qbj n H
 | .live B::H,n,0,_,_,_,_=>by simp [qbj]
 | .view ..::H,n,0,_,_,_,_=>by simp [qbj]
 | .free::H,n,0,_,h,h1,_=>by simp at h;exact absurd h.symm h1
 | .dead::H,n,0,_,h,_,h2=>by simp at h;exact absurd h.symm h2
 | .live B::H,n,b+1,_,h,h1,h2=>by
  rw [qbj,show n+(b+1)=(n+1)+b by omega]
  exact wam _ (qd5 (by simpa using h) h1 h2)
 | .view ..::H,n,b+1,_,h,h1,h2=>by
  rw [qbj,show n+(b+1)=(n+1)+b by omega]
  exact wam _ (qd5 (by simpa using h) h1 h2)
 | .free::H,n,b+1,_,h,h1,h2=>by
  rw [show n+(b+1)=(n+1)+b by omega]
  exact qd5 (n:=n+1) (H:=H) (by simpa using h) h1 h2
 | .dead::H,n,b+1,_,h,h1,h2=>by
  rw [show n+(b+1)=(n+1)+b by omega]
  exact qd5 (n:=n+1) (H:=H) (by simpa using h) h1 h2
theorem qjl {l:List Nat} (hl:l=qbj 0 H) (h:∀ b∈l,H'[b]?=H[b]?):Lives H H':=by
 have key:∀ {b:Nat} {x:Hs},H[b]?=some x→x≠.free→x≠.dead→H'[b]?=H[b]?:=fun {b x} h1 h2 h3=>h b (by rw [hl];simpa using qd5 (n:=0) h1 h2 h3)
 refine ⟨fun b B hb=>?_,fun m b i f hm=>?_⟩
 ·rw [qax (key (qaw hb) (by simp) (by simp))];exact hb
 ·rw [key hm (by simp) (by simp)];exact hm
theorem qi4:∀ {n a b:Nat},a≤b→b<a+n→b∈qqu a n
 | 0,a,b,h1,h2=>by omega
 | n+1,a,b,h1,h2=>by
  rw [qqu]
  by_cases h:b=a
  ·subst h;exact way ..
  ·exact wam _ (qi4 (by omega) (by omega))
theorem q1u (h:∀ b∈allN H,H'[b]?=H[b]?):H'=H:=by
 apply List.ext_getElem?;intro b
 by_cases hb:b≤H.length
 ·exact h b (qi4 (Nat.zero_le _) (by omega))
 ·have:=h H.length (qi4 (Nat.zero_le _) (by omega))
  rw [wac (wad H.length)] at this;have hl:H'.length≤H.length:=by
   rcases Nat.lt_or_ge H.length H'.length with h | h
   ·rw [wab h] at this;cases this
   ·exact h
  rw [wac (by omega),wac (by omega)]
theorem qql {b:Nat} (h:∀ c∈rdN H b,H'[c]?=H[c]?):hres H' b=hres H b:=by
 unfold rdN at h;unfold Ab.hres;split at h
 ·rename_i n i f hb;have h1:=h b (by simp)
  have h2:=h n (by simp)
  rw [h1,hb];simp only [qax h2]
 ·rename_i hb;have h1:=h b (by simp)
  rw [h1]
  cases hx:H[b]? with
  | none=>rfl
  | some x=>cases x with
   | view n i f=>exact absurd hx (hb n i f)
   | _=>rfl
theorem qn3 {rd:List Nat} {t:Ty} {i o:Nat} {pre:List AV} {te:Ty} {xs:List (Den te)} (hob:allP (qta rd t i o pre te xs).ob):(qta rd t i o pre te xs).rd=rd:=by
 revert hob
 unfold qta qye
 (repeat' split)<;>intro hob<;>first | exact qaa hob | rfl
theorem qn7 {t:Ty} {X:AV} (hob:allP (qea H t X).ob) (ha:∀ b∈(qea H t X).rd,H'[b]?=H[b]?):qea H' t X=qea H t X:=by
 cases X with
 | ref b s i o =>
  have key:hres H' b=hres H b:=by
   revert ha hob
   unfold qea;simp only
   (repeat' split)<;>intro hob ha<;>first | exact qaa hob | exact qql ha | exact qql (by rw [qn3 hob] at ha;exact ha)
  have key2:∀ c∈rdN H b,H'[c]?=H[c]?:=by
   revert ha hob
   unfold qea;simp only
   (repeat' split)<;>intro hob ha<;>first | exact qaa hob | exact ha | (rw [qn3 hob] at ha;exact ha)
  have key3:rdN H' b=rdN H b:=by
   have:H'[b]?=H[b]?:=key2 b (by unfold rdN;split<;>simp)
   unfold rdN;rw [this]
  unfold qea;simp only [key,key3]
 | val t y=>cases t<;>rfl
 | _=>rfl
theorem zdf {t:Ty} {b s i o:Nat} (hob:allP (qea H t (.ref b s i o)).ob) (ha:∀ c∈(qea H t (.ref b s i o)).rd,H'[c]?=H[c]?):H'[b]?=H[b]?:=by
 have key2:∀ c∈rdN H b,H'[c]?=H[c]?:=by
  revert ha
  revert hob
  unfold qea;simp only
  (repeat' split)<;>intro hob ha<;>first | exact qaa hob | exact ha | (rw [qn3 hob] at ha;exact ha)
 exact key2 b (by unfold rdN;split<;>simp)
theorem qtd {t:Ty} {b s i o:Nat} {v:AV} (hob:allP (qj1 H t b s i o v).ob) (ha:∀ c∈(qj1 H t b s i o v).rd,H'[c]?=H[c]?):H'[b]?=H[b]?∧qj1 H' t b s i o v=qj1 H t b s i o v:=by
 unfold qj1 at hob ha ⊢
 cases hb:H[b]? with
 | none=>rw [hb] at hob;exact qaa hob
 | some X =>
  rw [hb] at hob ha
  cases X with
  | view n p f =>
   simp only at hob ha ⊢
   cases hg:hget H n with
   | none=>rw [hg] at hob;exact qaa hob
   | some B =>
    rw [hg] at hob ha
    cases B with
    | nest te rows ho =>
     simp only at hob ha ⊢
     by_cases hs:s=sz te∧o=0
     case neg=>rw [if_neg hs] at hob;exact qaa hob
     rw [if_pos hs] at hob ha
     cases v with
     | val t' y =>
      simp only at hob ha ⊢
      by_cases htt:t'=t
      case neg=>rw [if_neg htt] at hob;exact qaa hob
      rw [if_pos htt] at hob ha
      cases hc:qa9 t' te y with
      | none=>rw [hc] at hob;exact qaa hob
      | some z =>
       rw [hc] at ha;have h1:=ha b (by simp)
       have h2:=ha n (by simp)
       rw [h1,hb];simp only [qax h2,hg,hc];exact ⟨trivial,trivial⟩
     | _=>exact qaa hob
    | _=>exact qaa hob
  | _=>exact qaa hob
theorem qsx {t:Ty} {b s i o:Nat} {te:Ty} {rows:List (List (Den te))} {h0:Option (Nat×Nat)} {v:AV} (hob:allP (qhf H t b s i o te rows h0 v).ob) (ha:∀ c∈(qhf H t b s i o te rows h0 v).rd,H'[c]?=H[c]?):H'[b]?=H[b]?∧qhf H' t b s i o te rows h0 v=qhf H t b s i o te rows h0 v:=by
 have all:(∀ c∈allN H,H'[c]?=H[c]?)→H'[b]?=H[b]?∧qhf H' t b s i o te rows h0 v=qhf H t b s i o te rows h0 v:=fun h=>by
  rw [q1u h];exact ⟨rfl,rfl⟩
 cases v with
 | sl m s' j len c =>
  simp only [qhf] at hob ha all ⊢
  by_cases hsh:(s=1∧o=0)∧(t=.slice te∧s'=sz te∧j=0)
  case neg=>rw [if_neg hsh] at hob;exact qaa hob
  simp only [if_pos hsh] at hob ha all ⊢
  cases hm:H[m]? with
  | none=>rw [hm] at hob;exact qaa hob
  | some X =>
   rw [hm] at hob ha all
   cases X with
   | free=>exact qaa hob
   | dead=>exact qaa hob
   | live B =>
    cases B with
    | arr te' xs opn =>
     simp only at hob ha all ⊢
     cases hc:qda te' te xs with
     | none=>rw [hc] at hob;exact qaa hob
     | some ys=>cases hq:capC xs.length opn c with
      | none=>rw [hc,hq] at hob;exact qaa hob
      | some q=>cases h0 with
       | some _=>rw [hc,hq] at hob;exact qaa hob
       | none =>
        rw [hc,hq] at ha all;exact all ha
    | _=>exact qaa hob
   | view b' p f =>
    simp only at hob ha all ⊢
    cases hbb:Nat.beq b' b with
    | false=>rw [hbb] at hob;exact qaa hob
    | true=>cases c with
     | some _=>rw [hbb] at hob;exact qaa hob
     | none=>cases f with
      | false=>cases h0 with
       | some qm =>
        obtain ⟨q,m'⟩:=qm;rw [hbb] at hob ha;simp only at hob ha ⊢
        cases hmm:Nat.beq m' m with
        | false=>rw [hmm] at hob;exact qaa hob
        | true =>
         rw [hmm] at ha;have h1:=ha b (by simp)
         have h2:=ha m (by simp)
         rw [h2,hm];simp only [hbb,hmm];exact ⟨h1,trivial⟩
       | none =>
        rw [hbb] at hob ha;simp only at hob ha ⊢;have h1:=ha b (by simp)
        have h2:=ha m (by simp)
        rw [h2,hm];simp only [hbb];exact ⟨h1,trivial⟩
      | true=>cases h0 with
       | some _=>rw [hbb] at hob;exact qaa hob
       | none =>
        rw [hbb] at hob ha all;simp only at hob ha all ⊢
        cases hf:qtv b m 0 H with
        | none=>rw [hf] at hob;exact qaa hob
        | some mi =>
         obtain ⟨m2,i2⟩:=mi;rw [hf] at ha all;exact all ha
 | _=>exact qaa hob
theorem qti {t:Ty} {b s i o:Nat} {v:AV} (hob:allP (qns H t b s i o v).ob) (ha:∀ c∈(qns H t b s i o v).rd,H'[c]?=H[c]?):qns H' t b s i o v=qns H t b s i o v:=by
 unfold qns at hob ha ⊢
 cases hg:hget H b with
 | none =>
  rw [hg] at hob ha;obtain ⟨h1,h2⟩:=qtd hob ha;rw [qax h1,hg];exact h2
 | some B =>
  rw [hg] at hob ha
  cases B with
  | nest te rows h0 =>
   obtain ⟨h1,h2⟩:=qsx hob ha;rw [qax h1,hg];exact h2
  | cells vs =>
   have key:H'[b]?=H[b]?:=by
    revert ha
    revert hob
    simp only
    (repeat' split)<;>intro hob ha<;>first | exact qaa hob | exact ha b (by simp)
   rw [qax key,hg]
  | arr te xs opn =>
   have key:H'[b]?=H[b]?:=by
    revert ha
    revert hob
    simp only
    (repeat' split)<;>intro hob ha<;>first | exact qaa hob | exact ha b (by simp)
   rw [qax key,hg]
  | mix pre te xs =>
   have key:H'[b]?=H[b]?:=by
    revert ha
    revert hob
    simp only;unfold qsw qqd
    (repeat' split)<;>intro hob ha<;>first | exact qaa hob | exact ha b (by simp)
   rw [qax key,hg]
  | _=>exact qaa hob
theorem qvl {te:Ty} {n:Int} {X:AV} (hob:allP (qrb H te n X).ob) (ha:∀ c∈(qrb H te n X).rd,H'[c]?=H[c]?):qrb H' te n X=qrb H te n X:=by
 obtain ⟨b,len,B,B',rfl,hb,hn,he,_,_⟩:=qpq hob;rw [he] at ha;have key:=ha b (by simp)
 unfold qrb;simp only [qax key]
theorem qyn {nw:Nat} {te:Ty} {X:AV} (hob:allP (litN H nw te X).ob) (ha:∀ c∈(litN H nw te X).rd,H'[c]?=H[c]?) (hu:∀ p∈(litN H nw te X).up,H'[p.1]?=H[p.1]?):litN H' nw te X=litN H nw te X:=by
 unfold litN at hob ha hu ⊢;split at hob
 case h_2=>rfl
 rename_i t m s i len c;simp only at ha hu ⊢
 cases hg:hget H m with
 | none=>rw [hg] at hob;exact qaa hob
 | some B =>
  rw [hg] at hob ha hu
  cases B with
  | arr t' xs opn =>
   simp only at hob ha hu ⊢
   cases hc:qda t' t xs with
   | none=>rw [hc] at hob;exact qaa hob
   | some ys=>cases hq:capC xs.length opn c with
    | none=>rw [hc,hq] at hob;exact qaa hob
    | some q =>
     rw [hc,hq] at hob ha hu;simp only at hob ha hu ⊢
     by_cases hf:qay H nw=true∧s=sz t∧i=0
     case neg=>rw [if_neg hf] at hob;exact qaa hob
     rw [if_pos hf] at ha hu;have h1:=ha m (by simp)
     have h2:=hu (nw,.live (.nest t [ys] none)) (by simp)
     rw [qax h1,hg];simp only [hc,hq,qa4 h2]
  | _=>exact qaa hob
theorem qyc {nw bytes:Nat} {te:Ty} {Y X:AV} (hob:allP (appN H nw te bytes Y X).ob) (ha:∀ c∈(appN H nw te bytes Y X).rd,H'[c]?=H[c]?) (hu:∀ p∈(appN H nw te bytes Y X).up,H'[p.1]?=H[p.1]?):qcp H' Y=qcp H Y∧appN H' nw te bytes Y X=appN H nw te bytes Y X:=by
 have key:∃ n,(∃ sy iy ly c,Y=.sl n sy iy ly c)∧H'[n]?=H[n]?∧H'[nw]?=H[nw]?∧∀ b s i len c,X=.sl b s i len c→H'[b]?=H[b]?:=by
  unfold appN q8i at hob ha hu;split at hob
  case h_2=>exact qaa hob
  rename_i n sy iy ly c2;refine ⟨n,⟨_,_,_,_,rfl⟩,?_⟩
  revert hu
  revert ha
  revert hob
  simp only;split
  case h_2=>exact fun hob=>qaa hob
  split
  case h_2=>exact fun hob=>qaa hob
  split
  ·split
   ·intro hob ha hu;exact ⟨ha n (by simp),hu (nw,_) (wam _ (way ..)),fun b s i len c h=>by cases h⟩
   ·exact fun hob=>qaa hob
  ·split
   ·split
    ·intro hob ha hu;exact ⟨ha n (by simp),hu (nw,_) (wam _ (wam _ (way ..))),fun b s i len c h=>by cases h;exact ha _ (by simp)⟩
    ·exact fun hob=>qaa hob
   ·split
    ·intro hob ha hu;exact ⟨ha n (by simp),hu (nw,_) (wam _ (wam _ (way ..))),fun b s i len c h=>by cases h;exact ha _ (by simp)⟩
    ·exact fun hob=>qaa hob
   ·exact fun hob=>qaa hob
  ·exact fun hob=>qaa hob
 obtain ⟨n,⟨sy,iy,ly,c,rfl⟩,h1,h2,h3⟩:=key;refine ⟨by simp only [qcp,qax h1],?_⟩
 have e1:qx2 H' (.sl n sy iy ly c)=qx2 H (.sl n sy iy ly c):=qax h1;have e2:qx2 H' X=qx2 H X:=by
  cases X with
  | sl b s i len c=>exact qax (h3 b s i len c rfl)
  | _=>rfl
 unfold appN;rw [e1,e2,qa4 h2]
theorem qkc {nw bytes:Nat} {te:Ty} {q:List Prop} {ys:List (Den te)} {m s i len:Nat} {c:Option Nat} (hob:allP (appV H nw te bytes q ys m s i len c).ob) (ha:∀ b∈(appV H nw te bytes q ys m s i len c).rd,H'[b]?=H[b]?):(∃ n p f,H[m]?=some (.view n p f))∧H'=H:=by
 unfold appV at hob ha
 cases hm:H[m]? with
 | none=>rw [hm] at hob;exact qaa hob
 | some X =>
  rw [hm] at hob ha
  cases X with
  | view n p f =>
   cases c with
   | some _=>exact qaa hob
   | none =>
    simp only at hob ha;refine ⟨⟨n,p,f,rfl⟩,?_⟩
    cases hg:hget H n with
    | none=>rw [hg] at hob;exact qaa hob
    | some B =>
     rw [hg] at hob ha
     cases B with
     | nest t rows h0 =>
      cases h0 with
      | some _=>exact qaa hob
      | none =>
       simp only at hob ha
       cases hc:qda te t ys with
       | none=>rw [hc] at hob;exact qaa hob
       | some ys' =>
        rw [hc] at hob ha;simp only at hob ha
        by_cases hf:qay H nw=true∧s=sz t∧i=0∧te=t
        case neg=>rw [if_neg hf] at hob;exact qaa hob
        rw [if_pos hf] at ha;exact q1u ha
     | _=>exact qaa hob
  | _=>cases c<;>exact qaa hob
theorem qys {te:Ty} {X:AV} (hob:allP (frzE H te X).ob) (ha:∀ c∈(frzE H te X).rd,H'[c]?=H[c]?):frzE H' te X=frzE H te X:=by
 unfold frzE at hob ha ⊢;split at hob
 case h_2=>rfl
 rename_i t b s i len c;have key:H'[b]?=H[b]?:=by
  revert ha
  revert hob
  simp only
  (repeat' split)<;>intro hob ha<;>first | exact qaa hob | exact ha b (by simp)
 simp only [qax key]
theorem qqq {sp:Spec} (hsp:qcu sp) {base:Nat} {T:List AV} {op:AO} (hob:allP (aeff sp base T H op).ob) (ha:qec H H' (aeff sp base T H op)):Ef.sim (aeff sp base T H op) (aeff sp base T H' op):=by
 cases op
 case load t x =>
  rw [aeff] at hob ha ⊢;rw [aeff];have hob:=(qbh hob).2;have e:=qn7 (H':=H') hob ha.1;unfold p1;rw [e];exact ⟨rfl,rfl,rfl⟩
 case loadh k f t x =>
  rw [aeff] at hob ha ⊢;rw [aeff];have hob:=(qbh hob).2
  revert hob ha
  dsimp only [p1]
  generalize (peel (ev T x)).2=X;intro ha hob;have other:(∀ (hob:allP (qea H (.slice t) X).ob),(∀ c∈(qea H (.slice t) X).rd,H'[c]?=H[c]?)→qea H' (.slice t) X=qea H (.slice t) X):=fun hob ha=>qn7 hob ha
  cases X with
  | ref b s i o =>
   have fin:∀ (hob:allP (qea H (.slice t) (.ref b s i o)).ob) (ha:∀ c∈(qea H (.slice t) (.ref b s i o)).rd,H'[c]?=H[c]?),hget H' b=hget H b∧qea H' (.slice t) (.ref b s i o)=qea H (.slice t) (.ref b s i o):=fun hob ha=>⟨qax (zdf hob ha),other hob ha⟩
   simp only at ha hob ⊢
   cases hg:hget H b with
   | none =>
    rw [hg] at hob ha;obtain ⟨h1,e⟩:=fin hob ha.1;rw [h1,hg];simp only [e];exact ⟨rfl,rfl,rfl⟩
   | some B =>
    rw [hg] at hob ha
    cases B with
    | nest t' rows h0 =>
     simp only at hob ha ⊢
     by_cases hc:(t'=t∧qay H (base+k)=true)∧s=1∧o=0
     case neg=>rw [if_neg hc] at hob;exact qaa hob
     rw [if_pos hc] at hob ha;have h1:hget H' b=hget H b:=by
      cases h0<;>exact qax (ha.1 b (by simp))
     have h2:qay H' (base+k)=qay H (base+k):=by
      cases h0<;>exact qa4 (ha.up (by simp))
     rw [h1,hg];simp only [h2,if_pos hc];exact ⟨rfl,rfl,rfl⟩
    | _ =>
     obtain ⟨h1,e⟩:=fin hob ha.1;rw [h1,hg];simp only [e];exact ⟨rfl,rfl,rfl⟩
  | val t' y =>
   have e:=other hob ha.1;simp only [e];exact ⟨rfl,rfl,rfl⟩
  | _=>exact qaa hob
 case slct te x n =>
  rw [aeff] at hob ha ⊢;rw [aeff];have hob:=(qbh hob).2
  revert hob ha
  dsimp only [p1]
  cases asInt (peel (ev T n)).2 with
  | none=>exact fun _ hob=>qaa hob
  | some u =>
   intro ha hob;have e:=qvl (H':=H') (qag.1 hob).2 ha.1;simp only [e];exact ⟨rfl,rfl,rfl⟩
 case mknest k te b n c =>
  rw [aeff] at hob ha ⊢;rw [aeff];have hob:=(qbh (qbh hob).2).2;have key:qay H' (base+k)=qay H (base+k):=by
   revert ha hob
   dsimp only [p1]
   (repeat' split)<;>intro ha hob<;>first | exact qaa hob | exact qa4 (ha.up (by simp))
  rw [key];exact Ef.sim.refl _
 case store t x v =>
  rw [aeff] at hob ha ⊢;rw [aeff];have hob:=(qbh hob).2
  revert hob ha
  dsimp only [p1]
  generalize (peel (ev T x)).2=X;intro ha hob
  cases X with
  | ref b s i o =>
   have hob:=(qag.1 hob).2;have e:=qti (H':=H') hob ha.1;simp only [e];exact ⟨rfl,rfl,rfl⟩
  | val t y=>cases t<;>exact ⟨rfl,rfl,rfl⟩
  | _=>exact ⟨rfl,rfl,rfl⟩
 case alloc k B =>
  rw [aeff] at hob ha ⊢;rw [aeff];have key:qay H' (base+k)=qay H (base+k):=by
   revert ha hob
   (repeat' split)<;>intro hob ha<;>first | exact qaa hob | exact qa4 (ha.up (by simp))
  rw [key];exact Ef.sim.refl _
 case nnest k te =>
  rw [aeff] at hob ha ⊢;rw [aeff];have key:qay H' (base+k)=qay H (base+k):=by
   revert ha hob
   (repeat' split)<;>intro hob ha<;>first | exact qaa hob | exact qa4 (ha.up (by simp))
  rw [key];exact Ef.sim.refl _
 case mkmap k kt vt =>
  rw [aeff] at hob ha ⊢;rw [aeff];have key:qay H' (base+k)=qay H (base+k):=by
   revert ha hob
   (repeat' split)<;>intro hob ha<;>first | exact qaa hob | exact qa4 (ha.up (by simp))
  rw [key];exact Ef.sim.refl _
 case box k t x =>
  rw [aeff] at hob ha ⊢;rw [aeff];have hob:=(qbh hob).2;have key:qay H' (base+k)=qay H (base+k):=by
   revert ha hob
   dsimp only [p1]
   (repeat' split)<;>intro ha hob<;>first | exact qaa hob | exact qa4 (ha.up (by simp))
  rw [key];exact Ef.sim.refl _
 case boxm k t x =>
  rw [aeff] at hob ha ⊢;rw [aeff];have hob:=(qbh hob).2;have key:qay H' (base+k)=qay H (base+k):=by
   revert ha hob
   dsimp only [p1]
   (repeat' split)<;>intro ha hob<;>first | exact qaa hob | exact qa4 (ha.up (by simp))
  rw [key];exact Ef.sim.refl _
 case bslice te l =>
  rw [aeff] at hob ha ⊢;rw [aeff]
  cases hb:qdn te T l with
  | some u=>exact Ef.sim.refl _
  | none =>
   rw [hb] at hob ha;simp only at hob ha ⊢
   match l,hob,ha with
   | [],_,_=>exact Ef.sim.refl _
   | [.k _],_,_=>exact Ef.sim.refl _
   | x::y::r,_,_=>rw [qjt,qjt];exact Ef.sim.refl _
   | [.t j],hob,ha =>
    simp only [frzL] at hob ha ⊢;have hob:=(qbh hob).2
    dsimp only [p1] at ha ⊢
    have e:=qys (H':=H') hob ha.1;simp only [e];exact ⟨rfl,rfl,rfl⟩
 case bslicef k te l =>
  rw [aeff] at hob ha ⊢;rw [aeff]
  cases hb:qdn te T l with
  | some u =>
   obtain ⟨p,xs⟩:=u;rw [hb] at hob ha;simp only at hob ha ⊢;have key:qay H' (base+k)=qay H (base+k):=by
    revert ha
    revert hob
    (repeat' split)<;>intro hob ha<;>first | exact qaa hob | exact qa4 (ha.up (by simp))
   rw [key];exact Ef.sim.refl _
  | none =>
   rw [hb] at hob;exact qaa hob
 case bslicem k te l =>
  rw [aeff] at hob ha ⊢;rw [aeff]
  cases hb:qdn te T l with
  | some u =>
   obtain ⟨p,xs⟩:=u;rw [hb] at hob ha;simp only at hob ha ⊢;have key:qay H' (base+k)=qay H (base+k):=by
    revert ha
    revert hob
    (repeat' split)<;>intro hob ha<;>first | exact qaa hob | exact qa4 (ha.up (by simp))
   rw [key];exact Ef.sim.refl _
  | none =>
   rw [hb] at hob ha;simp only at hob ha ⊢
   match l,hob,ha with
   | [],_,_=>exact Ef.sim.refl _
   | [x],hob,ha =>
    simp only [litL] at hob ha ⊢;have hob:=(qbh hob).2;have e:=qyn (H':=H') hob ha.1 ha.2;unfold p1;rw [e];exact ⟨rfl,rfl,rfl⟩
   | x::y::r,_,_=>exact Ef.sim.refl _
 case mkslice k te z b n c =>
  rw [aeff] at hob ha ⊢;rw [aeff];have hob:=(qbh (qbh hob).2).2;have key:qay H' (base+k)=qay H (base+k):=by
   revert ha hob
   dsimp only [p1]
   (repeat' split)<;>intro ha hob<;>first | exact qaa hob | exact qa4 (ha.up (by simp))
  rw [key];exact Ef.sim.refl _
 case mkslicec k te z b n c =>
  rw [aeff] at hob ha ⊢;rw [aeff];have hob:=(qbh (qbh hob).2).2;have key:qay H' (base+k)=qay H (base+k):=by
   revert ha hob
   dsimp only [p1]
   (repeat' split)<;>intro ha hob<;>first | exact qaa hob | exact qa4 (ha.up (by simp))
  rw [key];exact Ef.sim.refl _
 case call k f l =>
  rw [aeff] at hob ha ⊢;rw [aeff];have hob:=(qag.1 hob).2;obtain ⟨h1,h2,h3⟩:=hsp f H H' _ _ hob ha;exact ⟨by simp only [Ef.add,h1],h2,h3⟩
 case callv k g l =>
  rw [aeff] at hob ha ⊢;rw [aeff];have hob:=(qbh hob).2
  revert hob ha
  dsimp only [p1]
  generalize (peel (ev T g)).2=X;intro ha hob
  cases X with
  | fn f caps =>
   simp only at ha hob ⊢
   by_cases hl:isL caps=true
   ·rw [if_pos hl] at hob ha ⊢;rw [if_pos hl];have hob:=(qag.1 hob).2;obtain ⟨h1,h2,h3⟩:=hsp (fnF f) H H' _ _ hob ha;exact ⟨by simp only [Ef.add,h1],h2,h3⟩
   ·rw [if_neg hl] at hob;exact qaa hob
  | _=>exact ⟨rfl,rfl,rfl⟩
 case append k te bytes x y =>
  rw [aeff] at hob ha ⊢;rw [aeff];have hob:=(qbh hob).2
  revert hob ha
  dsimp only [p1]
  generalize (peel (ev T x)).2=X;generalize (peel (ev T y)).2=Y;intro ha hob
  cases hns:qcp H Y with
  | true =>
   rw [hns] at hob ha;simp only at hob ha ⊢;have hob:=(qag.1 hob).2;obtain ⟨e1,e2⟩:=qyc (H':=H') hob ha.1 ha.2;rw [e1,hns];simp only [e2];exact ⟨rfl,rfl,rfl⟩
  | false =>
  rw [hns] at hob ha;simp only at hob ha ⊢
  by_cases hv:∃ b s i len c n p f,X=.sl b s i len c∧H[b]?=some (.view n p f)
  ·obtain ⟨b,s,i,len,c,n,p,f,rfl,hb⟩:=hv
   cases hr:rvL H te Y with
   | none=>rw [hr] at hob;exact qaa hob
   | some u =>
    obtain ⟨q,ys⟩:=u;rw [hr] at hob ha;have hg:hget H b=none:=by simp only [hget,hb]
    simp only [hg] at hob ha;have hob:=(qag.1 hob).2;rw [(qkc hob ha.1).2,hns,hr];simp only [hg];exact ⟨rfl,rfl,rfl⟩
  have k1:Lives H H':=by
   revert ha hob
   (repeat' split)<;>intro ha hob<;>first
    | exact qaa hob
    | exact qaa (qag.1 hob).2
    | exact qjl rfl ha.1
    | exact absurd ⟨_,_,_,_,_,_,_,_,rfl,(qkc (H':=H) (qag.1 hob).2 (fun _ _=>rfl)).1.choose_spec.choose_spec.choose_spec⟩ hv
  have hns':rvL H te Y≠none→qcp H' Y=false:=fun hr=>by
   cases Y with
   | sl n s i len c =>
    have hx:∃ B,hres H n=some B:=by
     cases hB:hres H n with
     | some B=>exact ⟨B,rfl⟩
     | none =>
      exfalso;apply hr;have:arrElems H te n s=none:=by unfold arrElems;rw [hB]
      unfold rvL;simp only [rv,this];rfl
    obtain ⟨B,hB⟩:=hx;simp only [qcp]
    cases hg:hget H' n with
    | none=>rfl
    | some B' =>
     have h2:=k1.hres hB;rw [qms hg] at h2;have h2:=Option.some.inj h2;subst h2
     cases B' with
     | nest t rows ho =>
      exfalso;unfold hres at hB;split at hB
      ·rename_i hb;cases hB;simp only [qcp,hget,hb] at hns;cases hns
      ·split at hB<;>cases hB
      ·cases hB
     | _=>rfl
   | _=>rfl
  cases hr:rvL H te Y with
  | none=>rw [hr] at hob;exact qaa hob
  | some u =>
   rw [hns' (by rw [hr];simp)]
   simp only;have hr':rvL H' te Y=some u:=qfg k1 _ _ _ hr;rw [hr] at hob ha;rw [hr'];obtain ⟨q,ys⟩:=u;simp only at hob ha ⊢
   cases X with
   | sl b s i len c =>
    have hob:=(qag.1 hob).2;simp only at hob ha ⊢
    cases hg:hget H b with
    | none =>
     rw [hg] at hob;rw [hg] at ha;obtain ⟨⟨n,p,f,hb⟩,_⟩:=qkc hob ha.1;exact absurd ⟨b,s,i,len,c,n,p,f,rfl,hb⟩ hv
    | some B =>
     rw [k1.hg _ _ hg];rw [hg] at hob ha
     cases B with
     | arr t xs opn =>
      simp only at hob ha ⊢
      cases hc:qda t te xs with
      | none=>rw [hc] at hob;exact qaa hob
      | some zs =>
       rw [hc] at hob ha;simp only at hob ha ⊢
       cases hcl:qrx opn c with
       | true =>
        by_cases hs:s=sz te
        ·simp only [if_pos hs];exact ⟨rfl,rfl,rfl⟩
        ·rw [hcl] at hob;simp only [if_neg hs] at hob;exact qaa hob
       | false =>
        rw [hcl] at hob ha;simp only at hob ha ⊢;have k2:qay H' (base+k)=qay H (base+k):=by
         revert ha hob
         (repeat' split)<;>intro ha hob<;>first
          | exact qaa hob
          | exact qa4 (ha.up (by simp))
        rw [k2]
        (repeat' split)<;>exact ⟨rfl,rfl,rfl⟩
     | _=>exact qaa hob
   | vsl t xs c =>
    have k2:qay H' (base+k)=qay H (base+k):=by
     have hob:=(qag.1 hob).2
     revert ha hob
     simp only
     (repeat' split)<;>intro ha hob<;>first
      | exact qaa hob
      | exact qa4 (ha.up (by simp))
    simp only [k2]
    (repeat' split)<;>exact ⟨rfl,rfl,rfl⟩
   | _=>exact ⟨rfl,rfl,rfl⟩
 case lookup kt vt d x i ok =>
  rw [aeff] at hob ha ⊢;rw [aeff];have hob:=(qbh hob).2
  revert hob ha
  dsimp only [p1]
  generalize (peel (ev T x)).2=X;generalize (peel (ev T i)).2=I;intro ha hob
  cases hI:asD kt I with
  | none=>rw [hI] at hob;exact qaa hob
  | some key =>
   rw [hI] at hob ha
   by_cases he:qcw kt=true
   ·simp only [he,if_true] at hob ha ⊢;have hob:=(qag.1 hob).2
    cases X with
    | mref b =>
     have key:hget H' b=hget H b:=by
      revert ha hob
      simp only [asD]
      (repeat' split)<;>intro ha hob<;>first
       | exact qaa hob
       | exact qax (ha.1 b (by simp))
     simp only [key];exact Ef.sim.refl _
    | _=>exact ⟨rfl,rfl,rfl⟩
   ·simp only [he,if_false] at hob;exact qaa hob
 case cpy te x y =>
  rw [aeff] at hob ha ⊢;rw [aeff]
  cases hf:flat te with
  | false=>rw [hf] at hob;exact qaa hob
  | true =>
  rw [hf] at hob ha;simp only at hob ha ⊢;have hob:=(qbh hob).2
  revert hob ha
  dsimp only [p1]
  generalize (peel (ev T x)).2=X;generalize (peel (ev T y)).2=Y;intro ha hob;have k1:Lives H H':=by
   revert ha hob
   (repeat' split)<;>intro ha hob<;>first
    | exact qaa hob
    | exact qaa (qag.1 hob).2
    | exact qjl rfl ha.1
  cases hr:rvL H te Y with
  | none=>rw [hr] at hob;exact qaa hob
  | some u =>
   have hr':rvL H' te Y=some u:=qfg k1 _ _ _ hr;rw [hr] at hob;rw [hr'];obtain ⟨q,ys⟩:=u;simp only at hob ⊢
   cases X with
   | sl b s i len c =>
    have hob:=(qag.1 hob).2;simp only at hob ⊢
    cases hg:hget H b with
    | none=>rw [hg] at hob;exact qaa hob
    | some B =>
     rw [k1.hg _ _ hg]
     cases B with
     | arr t xs opn =>
      simp only
      cases hc:qda t te xs with
      | none=>exact ⟨rfl,rfl,rfl⟩
      | some zs =>
       simp only;split<;>exact ⟨rfl,rfl,rfl⟩
     | _=>exact ⟨rfl,rfl,rfl⟩
   | _=>exact ⟨rfl,rfl,rfl⟩
 case mapup kt vt m key v =>
  rw [aeff] at hob ha ⊢;rw [aeff];have hob:=(qbh hob).2
  revert hob ha
  dsimp only [p1]
  generalize (peel (ev T m)).2=X;intro ha hob
  cases X with
  | mref b =>
   have hob:=(qag.1 (qag.1 hob).2).2;have key:hget H' b=hget H b:=by
    revert ha hob
    dsimp only
    (repeat' split)<;>intro ha hob<;>first | exact qaa hob | exact qax (ha.1 b (by simp))
   simp only [key];exact Ef.sim.refl _
  | _=>exact ⟨rfl,rfl,rfl⟩
 all_goals first
  | (rw [aeff,aeff];exact Ef.sim.refl _)
end
def memN:Nat→List Nat→Bool
 | _,[]=>false
 | n,x::xs=>Nat.beq n x || memN n xs
def qyb:List Nat→List Nat→Bool
 | [],_=>true
 | x::xs,l=>!memN x l && qyb xs l
def q2i (d:Option Nat) (l:List Nat):Bool:=match d with
 | none=>true
 | some d=>!memN d l
def zap (x y:Inf):Bool :=
 q2i x.dst y.uses && q2i x.dst y.dst.toList && q2i y.dst x.uses && qyb x.ups y.rd && qyb x.ups y.ups && qyb x.rd y.ups
def qri (m:Nat) (y:Inf):List Inf→Bool
 | []=>true
 | x::xs=>(Nat.testBit m x.i || zap x y) && qri m y xs
def qi9:List Nat→List Inf→List Inf→Bool
 | m::ms,prev,y::ys=>Nat.blt m (2 ^ y.i) && qri m y prev && qi9 ms (y::prev) ys
 | _,_,[]=>true
 | [],_,_::_=>false
theorem qjq {n:Nat}:∀ {l:List Nat},memN n l=true↔n∈l
 | []=>by simp [memN]
 | x::l=>by simp [memN,qjq (l:=l)]
theorem qht:∀ {l m:List Nat},qyb l m=true→∀ x∈l,x∉m
 | [],_,_,_,h=>by cases h
 | y::l,m,h,x,hx=>by
  simp only [qyb,wa3,Bool.not_eq_true'] at h
  rcases List.mem_cons.1 hx with rfl | hx
  ·intro hm;rw [qjq.2 hm] at h;cases h.1
  ·exact qht h.2 x hx
theorem qkr {d:Option Nat} {l:List Nat} (h:q2i d l=true):∀ x∈l,d≠some x:=by
 intro x hx hd;subst hd;simp only [q2i,Bool.not_eq_true'] at h;rw [qjq.2 hx] at h;cases h
structure Indep (x y:Inf):Prop where
 du:∀ n∈y.uses,x.dst≠some n
 dd:∀ n,y.dst=some n→x.dst≠some n
 ud:∀ n∈x.uses,y.dst≠some n
 ur:∀ b∈x.ups,b∉y.rd
 uu:∀ b∈x.ups,b∉y.ups
 ru:∀ b∈x.rd,b∉y.ups
theorem qyp {x y:Inf} (h:zap x y=true):Indep x y:=by
 simp only [zap,wa3] at h;obtain ⟨⟨⟨⟨⟨h1,h2⟩,h3⟩,h4⟩,h5⟩,h6⟩:=h;exact ⟨qkr h1,fun n hn=>qkr h2 n (by rw [hn];simp),qkr h3,qht h4,qht h5,qht h6⟩
theorem qlf {m:Nat} {y:Inf}:∀ {l:List Inf},qri m y l=true→∀ x∈l,m.testBit x.i=true∨Indep x y
 | [],_,_,hx=>by cases hx
 | z::l,h,x,hx=>by
  simp only [qri,wa3,wbe] at h
  rcases List.mem_cons.1 hx with rfl | hx
  ·exact h.1.imp id qyp
  ·exact qlf h.2 x hx
theorem qez:∀ {M:List Nat} {prev l:List Inf},qi9 M prev l=true →
  (∀ (j:Nat) (y:Inf),l[j]?=some y→M.getD j 0<2 ^ y.i∧(∀ x∈prev,(M.getD j 0).testBit x.i=true∨Indep x y)∧∀ (k:Nat) (x:Inf),k<j→l[k]?=some x→(M.getD j 0).testBit x.i=true∨Indep x y)
 | m::M,prev,z::l,h,j,y,hy=>by
  simp only [qi9,wa3] at h;obtain ⟨⟨h1,h2⟩,h3⟩:=h
  cases j with
  | zero =>
   simp only [wa6,waz] at hy;subst hy;refine ⟨?_,qlf h2,fun k x hk=>by omega⟩
   have h1':m+1≤2 ^ z.i:=by simpa [Nat.blt] using h1
   have h1':m<2 ^ z.i:=h1';simpa using h1'
  | succ j =>
   rw [wa4] at hy;obtain ⟨g1,g2,g3⟩:=qez h3 j y hy;refine ⟨by simpa using g1,fun x hx=>by simpa using g2 x (wam _ hx),fun k x hk hx=>?_⟩
   cases k with
   | zero =>
    simp only [wa6,waz] at hx;subst hx;simpa using g2 z (way ..)
   | succ k =>
    rw [wa4] at hx;simpa using g3 k x (by omega) hx
 | [],_,_::_,h,_,_,_=>by simp [qi9] at h
 | [],_,[],_,_,_,hy=>by simp at hy
 | _::_,_,[],_,_,_,hy=>by simp at hy
section
variable {X E:Type}
def qc6 (act:E→X→X):List E→Nat→(Nat→Bool)→X→X
 | [],_,_,x=>x
 | e::es,i,L,x=>qc6 act es (i+1) L (if L i then act e x else x)
theorem qh2 {Y:Type} {act:E→X→X} {act':E→Y→Y} (pr:X→Y) (h:∀ e x,pr (act e x)=act' e (pr x)):∀ (es:List E) (i:Nat) (L:Nat→Bool) (x:X),pr (qc6 act es i L x)=qc6 act' es i L (pr x)
 | [],_,_,_=>rfl
 | e::es,i,L,x=>by
  simp only [qc6];rw [qh2 pr h es];cases L i<;>simp [h]
theorem qb2 {act:E→X→X} {L L':Nat→Bool}:∀ (es:List E) (i:Nat) (x:X),(∀ k e,es[k]?=some e→L (i+k)≠L' (i+k)→∀ x,act e x=x)→qc6 act es i L x=qc6 act es i L' x
 | [],_,_,_=>rfl
 | e::es,i,x,h=>by
  simp only [qc6];have h0:(if L i then act e x else x)=(if L' i then act e x else x):=by
   by_cases hl:L i=L' i
   ·rw [hl]
   ·have:=h 0 e rfl (by simpa using hl)
    cases L i<;>cases L' i<;>simp [this]
  rw [h0];exact qb2 es (i+1) _ fun k e' hk hne=>h (k+1) e' (by simpa using hk) (by rwa [show i+(k+1)=i+1+k by omega])
theorem qf2 {act:E→X→X} {L:Nat→Bool}:∀ (es:List E) (i:Nat) (x:X),(∀ k e,es[k]?=some e→L (i+k)=true→∀ x,act e x=x)→qc6 act es i L x=x
 | [],_,_,_=>rfl
 | e::es,i,x,h=>by
  simp only [qc6];have h0:(if L i then act e x else x)=x:=by
   cases hl:L i
   ·rfl
   ·simp [h 0 e rfl (by simpa using hl)]
  rw [h0];exact qf2 es (i+1) _ fun k e' hk hl=>h (k+1) e' (by simpa using hk) (by rwa [show i+(k+1)=i+1+k by omega])
def addL (L:Nat→Bool) (j:Nat):Nat→Bool:=fun k=>k == j || L k
theorem qn4 {act:E→X→X} {L:Nat→Bool}:∀ (es:List E) (i j:Nat) (e:E) (x:X),es[j]?=some e→L (i+j)=false→(∀ k e',j<k→es[k]?=some e'→L (i+k)=true→∀ x,act e' x=x) →
  qc6 act es i (addL L (i+j)) x=act e (qc6 act es i L x)
 | e0::es,i,0,e,x,hj,hl,h=>by
  simp only [wa6,waz] at hj;subst hj;simp only [qc6];have h1:addL L (i+0) i=true:=by simp [addL]
  rw [show L i=false from hl,h1,if_pos rfl]
  simp only [wa2,if_false];have hid:∀ k e',es[k]?=some e'→L (i+1+k)=true→∀ x,act e' x=x:=fun k e' hk hl=>h (k+1) e' (by omega) (by simpa using hk) (by rwa [show i+(k+1)=i+1+k by omega])
  rw [qf2 es (i+1) (L:=L) x hid,qf2 es (i+1) _ fun k e' hk hl=>hid k e' hk (by
   simp only [addL,wbe,beq_iff_eq] at hl;exact hl.resolve_left (by omega))]
 | e0::es,i,j+1,e,x,hj,hl,h=>by
  simp only [qc6];have h1:addL L (i+(j+1)) i=L i:=by
   simp only [addL];rw [show (i == i+(j+1))=false by simp]
   rfl
  rw [h1,show i+(j+1)=(i+1)+j by omega]
  exact qn4 es (i+1) j e _ (by simpa using hj) (by rwa [show i+1+j=i+(j+1) by omega]) fun k e' hk hk' hl=>h (k+1) e' (by omega) (by simpa using hk') (by rwa [show i+(k+1)=i+1+k by omega])
 | [],_,_,_,_,hj,_,_=>by simp at hj
end
abbrev Rec:=AOp×Ef
def appS (es:List Rec) (L:Nat→Bool) (S:St):St:=qc6 (fun (p:Rec) S=>S.step p.1.dst p.2) es 0 L S
def actT (n:Nat) (p:Rec) (x:Option AV):Option AV:=if p.1.dst=some n then x.map fun _=>p.2.v else x
def qxs (up:List (Nat×Hs)) (b:Nat) (x:Option Hs):Option Hs:=up.foldl (fun x q=>if q.1=b then x.map fun _=>q.2 else x) x
def actH (b:Nat) (p:Rec) (x:Option Hs):Option Hs:=qxs p.2.up b x
theorem qsb {T:List AV} {d:Option Nat} {v:AV} {n:Nat}:(setT T d v)[n]?=if d=some n then T[n]?.map fun _=>v else T[n]?:=by
 cases d with
 | none=>simp [setT]
 | some d =>
  simp only [setT,waw,waz]
  by_cases h:d=n
  ·subst h;simp only [if_true];split
   ·rename_i h;simp [h]
   ·rename_i h;simp [wac (Nat.le_of_not_lt h)]
  ·simp [h]
theorem qnn:∀ {up:List (Nat×Hs)} {H:List Hs} {b:Nat},(qar H up)[b]?=qxs up b H[b]?
 | [],_,_=>rfl
 | q::up,H,b=>by
  simp only [qar];rw [qnn (up:=up)];simp only [qxs,wbn];congr 1;rw [waw]
  by_cases h:q.1=b
  ·subst h;simp only [if_true];split
   ·rename_i h;simp [h]
   ·rename_i h;simp [wac (Nat.le_of_not_lt h)]
  ·simp [h]
theorem qv1 {b:Nat}:∀ {up:List (Nat×Hs)},(∀ p∈up,p.1≠b)→∀ x,qxs up b x=x
 | [],_,_=>rfl
 | q::up,h,x=>by
  have h1:=h q (way ..);simp only [qxs,wbn,if_neg h1];exact qv1 (fun p hp=>h p (wam _ hp)) x
theorem qo4 {es:List Rec} {L:Nat→Bool} {S:St} (n:Nat):(appS es L S).T[n]?=qc6 (actT n) es 0 L S.T[n]? :=
 qh2 (fun S:St=>S.T[n]?) (fun p S=>by simp only [St.step,qsb,actT]) es 0 L S
theorem qig {es:List Rec} {L:Nat→Bool} {S:St} (b:Nat):(appS es L S).H[b]?=qc6 (actH b) es 0 L S.H[b]? :=
 qh2 (fun S:St=>S.H[b]?) (fun p S=>by simp only [St.step,qnn,actH]) es 0 L S
def ifo (j:Nat) (p:Rec):Inf:=q7o j p.1 p.2
theorem qfk {b:Nat} {p:Rec} (h:b∉(ifo 0 p).ups):∀ x,actH b p x=x :=
 qv1 fun q hq e=>h (by rw [← e];exact List.mem_map_of_mem hq)
theorem qk9 {n:Nat} {p:Rec} (h:p.1.dst≠some n):∀ x,actT n p x=x:=fun x=>if_neg h
theorem qws {es:List Rec} {L:Nat→Bool} {S:St} {j:Nat} {p:Rec} (hj:es[j]?=some p) (hl:L j=false) (h:∀ k q,j<k→es[k]?=some q→L k=true→Indep (ifo j p) (ifo k q)) :
  appS es (addL L j) S=(appS es L S).step p.1.dst p.2:=by
 have hT:(appS es (addL L j) S).T=((appS es L S).step p.1.dst p.2).T:=by
  apply List.ext_getElem?;intro n;rw [qo4];simp only [St.step,qsb];rw [qo4]
  by_cases hd:p.1.dst=some n
  ·rw [if_pos hd];have:=qn4 (act:=actT n) (L:=L) es 0 j p S.T[n]? hj (by simpa using hl) fun k q hk hq hL=>qk9 fun he=>(h k q hk hq (by simpa using hL)).dd n he hd
   simp only [wa7] at this;rw [this];simp [actT,hd]
  ·rw [if_neg hd];refine qb2 es 0 _ fun k q hk hne=>?_
   have:k=j:=by
    simp only [addL,wa7] at hne
    by_cases hkj:k=j
    ·exact hkj
    ·simp [hkj] at hne
   subst this;rw [hj] at hk;cases hk;exact qk9 hd
 have hH:(appS es (addL L j) S).H=((appS es L S).step p.1.dst p.2).H:=by
  apply List.ext_getElem?;intro b;rw [qig];simp only [St.step,qnn];rw [qig]
  by_cases hb:b∈(ifo 0 p).ups
  ·have:=qn4 (act:=actH b) (L:=L) es 0 j p S.H[b]? hj (by simpa using hl) fun k q hk hq hL=>qfk fun he=>(h k q hk hq (by simpa using hL)).uu b hb he
   simp only [wa7] at this;rw [this];rfl
  ·have hid:=qfk hb;rw [show qxs p.2.up b (qc6 (actH b) es 0 L S.H[b]?)=actH b p (qc6 (actH b) es 0 L S.H[b]?) from rfl,hid]
   refine qb2 es 0 _ fun k q hk hne=>?_
   have:k=j:=by
    simp only [addL,wa7] at hne
    by_cases hkj:k=j
    ·exact hkj
    ·simp [hkj] at hne
   subst this;rw [hj] at hk;cases hk;exact hid
 exact St.ext hT hH
theorem qtc {sp:Spec} (hsp:qcu sp) {base:Nat} {S S':St} {o:AOp} (hob:allP (geff sp base S.T S.H o).ob) (hT:Eqs S.T S'.T o.use) (hr:∀ b∈(geff sp base S.T S.H o).rd,S'.H[b]?=S.H[b]?) (hu:∀ p∈(geff sp base S.T S.H o).up,S'.H[p.1]?=S.H[p.1]?) :
  GRel sp base S' o (geff sp base S.T S.H o):=by
 have h0:=qv6 hob;have h:=qw8 hob;generalize geff sp base S.T S.H o=e at h h0 hr hu;clear hob;obtain ⟨dst,op,g⟩:=o;have hT1:aeff sp base S'.T S'.H op=aeff sp base S.T S'.H op:=(q34 hT.left).symm
 cases g with
 | none =>
  obtain ⟨h1,h2,h3⟩:=h0;simp only [GRd] at h;obtain ⟨g1,g2,g3⟩:=qqq hsp h1 ⟨by rw [← h];exact hr,by rw [← h3];exact hu⟩
  simp only [GRel,hT1];exact ⟨by rw [g1];exact h1,h2.trans g2.symm,h3.trans g3.symm⟩
 | some dw =>
  obtain ⟨d,want⟩:=dw;have h2:=hT.right d (by simp)
  obtain ⟨c,y,k1,k2,k3⟩:=h;have hT2:qdc S'.T op=qdc S.T op:=(qxq hT.left).symm;simp only [GRel,hT1,hT2];refine ⟨c,y,by rw [← h2];exact k1,k2,?_⟩
  rcases k3 with ⟨k3,k4,k5⟩ | ⟨p,f,k,args,q1,q2,q3,q4,q5,q6⟩
  ·refine .inl ⟨fun hc=>?_,fun hc=>(k4 hc).1.congr fun p hp=>⟨hu p hp,fun b i f hv=>hr b ((k4 hc).2 p hp b i f hv)⟩⟩
   obtain ⟨m1,m2,m3⟩:=k3 hc;obtain ⟨g1,g2,g3⟩:=qqq hsp m2 ⟨by rw [← k5];exact hr,by rw [← m1];exact hu⟩
   exact ⟨m1.trans g3.symm,by rw [g1];exact m2,m3.trans g2.symm⟩
  ·obtain ⟨g1,g2,g3⟩:=hsp f S.H S'.H _ _ q3 ⟨by rw [← q6];exact hr,by rw [← q5];exact hu⟩
   exact .inr ⟨p,f,k,args,q1,q2,by rw [g1];exact q3,q4.trans g2.symm,q5.trans g3.symm⟩
noncomputable def recL (sp:Spec) (base:Nat):List AOp→St→List Rec
 | [],_=>[]
 | o::os,S=>(o,geff sp base S.T S.H o)::recL sp base os (S.step o.dst (geff sp base S.T S.H o))
section
variable {sp:Spec} {base:Nat}
theorem qf8:∀ {l:List AOp} {S:St},(recL sp base l S).length=l.length
 | [],_=>rfl
 | o::l,S=>by simp [recL,qf8 (l:=l)]
theorem qkj {X E:Type} {act:E→X→X}:∀ (es:List E) (i:Nat) (x:X),qc6 act es i (fun _=>true) x=es.foldl (fun x e=>act e x) x
 | [],_,_=>rfl
 | e::es,i,x=>by simp [qc6,qkj es]
theorem q2n:∀ {l:List AOp} {i:Nat} {S:St},(runL sp base i l S).S=(recL sp base l S).foldl (fun S (p:Rec)=>S.step p.1.dst p.2) S
 | [],_,_=>rfl
 | o::l,i,S=>by rw [qes];simp only [recL,wbn];exact q2n
theorem qq7:∀ {l:List AOp} {i:Nat} {S:St} (j:Nat),(runL sp base i l S).inf[j]?=((recL sp base l S)[j]?).map (ifo (i+j))
 | [],i,S,j=>by simp [runL,recL]
 | o::l,i,S,0=>by rw [qes];simp [recL,ifo]
 | o::l,i,S,j+1=>by
  rw [qes];simp only [recL,wa4];rw [qq7 j,show i+1+j=i+(j+1) by omega]
theorem qsa:∀ {l:List AOp} {i:Nat} {S:St},allP (runL sp base i l S).ob→∀ (j:Nat) (p:Rec),(recL sp base l S)[j]?=some p→allP p.2.ob
 | [],_,_,_,j,p,h=>by simp [recL] at h
 | o::l,i,S,hob,0,p,h=>by
  rw [qes] at hob;simp only [recL,wa6,waz] at h;subst h;exact (qag.1 hob).1
 | o::l,i,S,hob,j+1,p,h=>by
  rw [qes] at hob;simp only [recL,wa4] at h;exact qsa (qag.1 hob).2 j p h
theorem qr4:∀ {l:List AOp} {S:St} (j:Nat) (p:Rec) (i:Nat),(recL sp base l S)[j]?=some p →
  l[j]?=some p.1∧p.2=geff sp base (qc6 (fun (p:Rec) S=>S.step p.1.dst p.2) (recL sp base l S) i (fun k=>decide (k<i+j)) S).T (qc6 (fun (p:Rec) S=>S.step p.1.dst p.2) (recL sp base l S) i (fun k=>decide (k<i+j)) S).H p.1
 | [],_,_,_,_,h=>by simp [recL] at h
 | o::l,S,0,p,i,h=>by
  simp only [recL,wa6,waz] at h;subst h;refine ⟨rfl,?_⟩;rw [qf2 _ _ _ fun k e _ hl=>by simp at hl;omega]
 | o::l,S,j+1,p,i,h=>by
  simp only [recL,wa4] at h;obtain ⟨h1,h2⟩:=qr4 j p (i+1) h;refine ⟨by simpa using h1,?_⟩
  rw [h2];simp only [recL,qc6];have:decide (i<i+(j+1))=true:=by simp
  rw [this];simp only [if_true];have he:(fun k=>decide (k<i+1+j))=fun k=>decide (k<i+(j+1)):=by funext k;congr 1;simp only [eq_iff_iff];omega
  rw [he]
end
theorem qis {acc:List Nat}:∀ {es:List Edge} {e:Edge},e∈es→Region.binds .any e=true→(qgs acc es).testBit e.on=true
 | [],_,h,_=>by cases h
 | x::es,e,h,hb=>by
  simp only [qgs]
  rcases List.mem_cons.1 h with rfl | h
  ·rw [if_pos hb];simp [Nat.testBit_or,Nat.testBit_two_pow_self]
  ·have:=qis (acc:=acc) h hb;split
   ·simp [Nat.testBit_or,this]
   ·exact this
theorem qf4 {acc:List Nat} {k:Nat}:∀ {es:List Edge},(qgs acc es).testBit k=true→∃ e∈es,Region.binds .any e=true∧(k=e.on∨(acc.getD e.on 0).testBit k=true)
 | [],h=>by simp [qgs] at h
 | x::es,h=>by
  simp only [qgs] at h;split at h
  ·rename_i hb;simp only [Nat.testBit_or,wbe] at h
   rcases h with (h | h) | h
   ·refine ⟨x,way ..,hb,.inl ?_⟩;rw [Nat.testBit_two_pow] at h;exact (of_decide_eq_true h).symm
   ·exact ⟨x,way ..,hb,.inr h⟩
   ·obtain ⟨e,h1,h2⟩:=qf4 h;exact ⟨e,wam _ h1,h2⟩
  ·obtain ⟨e,h1,h2⟩:=qf4 h;exact ⟨e,wam _ h1,h2⟩
theorem qnu:∀ {os:List Oper} {acc:List Nat} {j:Nat},j<acc.length→(qcz os acc)[j]?=acc[j]?
 | [],_,_,_=>rfl
 | o::os,acc,j,h=>by
  simp only [qcz];rw [qnu (by simp;omega),waf h]
theorem qmo:∀ {os:List Oper} {acc:List Nat} {i:Nat} {o:Oper},os[i]?=some o→(qcz os acc)[acc.length+i]?=some (qgs ((qcz os acc).take (acc.length+i)) o.after.toList)
 | [],_,_,_,h=>by simp at h
 | x::os,acc,0,o,h=>by
  simp only [wa6,waz] at h;subst h;have ht:(qcz (x::os) acc).take acc.length=acc:=by
   apply List.ext_getElem?;intro j;rw [wat];split
   ·exact qnu ‹_›
   ·rw [wac (by omega)]
  rw [Nat.add_zero,ht];simp only [qcz];rw [qnu (by simp)]
  simp
 | x::os,acc,i+1,o,h=>by
  simp only [qcz];have:=qmo (os:=os) (acc:=acc++[qgs acc x.after.toList]) (i:=i) (o:=o) (by simpa using h)
  simp only [wae,wa5,wa9,wa7] at this;rw [show acc.length+(i+1)=acc.length+1+i by omega]
  exact this
section
variable {P:Program} {sp:Spec}
theorem qq5 {ms:List Nat} {all:Array Oper}:∀ {os:List Oper} {k m:Nat} {l:List AOp},cReg P ms all os k=some (l,m)→l.length=os.length ∧
  ∀ (i:Nat) (o:Oper),os[i]?=some o→∃ ao g k',l[i]?=some ⟨o.dst,ao,g⟩∧cOp P ms o k'=some ao∧qqm all o.guard=some g
 | [],k,m,l,h=>by
  simp only [cReg,waz,wa1] at h;obtain ⟨rfl,_⟩:=h;exact ⟨rfl,fun i o h=>by simp at h⟩
 | o::os,k,m,l,h=>by
  obtain ⟨ao,g,l',rfl,h1,h2,h3⟩:=qtt h;obtain ⟨g1,g2⟩:=qq5 h3;refine ⟨by simp [g1],fun i o' ho'=>?_⟩
  cases i with
  | zero =>
   simp only [wa6,waz] at ho';subst ho';exact ⟨ao,g,k,rfl,h1,h2⟩
  | succ i =>
   obtain ⟨ao',g',k',q1,q2,q3⟩:=g2 i o' (by simpa using ho')
   exact ⟨ao',g',k',by simpa using q1,q2,q3⟩
theorem q1c (hsp:SpecOk P sp) (hfr:qcu sp) (base:Nat) {ms:List Nat} {ops:Array Oper} {l:List AOp} {m:Nat} (hc:cReg P ms ops ops.toList 0=some (l,m)) {S:St}
  (hob:allP (runL sp base 0 l S).ob) (hchk:qi9 (qcz ops.toList []) [] (runL sp base 0 l S).inf=true) {Q:Exit→Act→World→Prop} {Γ0:Cx} {w0:World}
  (hq:∀ Γ' a' w',Ext Γ0 S.H w0 Γ' (runL sp base 0 l S).S.H w'→Emb Γ' (runL sp base 0 l S).S a' w'→Q .normal a' w') :
  ∀ (fuel:Nat) (listed:Array Bool) (Γ:Cx) (a:Act) (w:World),listed.size=ops.size→listed.toList.countP (!·)=fuel →
   (∀ j k,listed.getD j false=true→((qcz ops.toList []).getD j 0).testBit k=true→listed.getD k false=true) →
   Emb Γ (appS (recL sp base l S) (fun k=>listed.getD k false) S) a w→Ext Γ0 S.H w0 Γ (appS (recL sp base l S) (fun k=>listed.getD k false) S).H w →
   wpAny P .any ops Q fuel listed a w:=by
 obtain ⟨hlen,hget⟩:=qq5 hc;have hinf:∀ (j:Nat) (p:Rec),(recL sp base l S)[j]?=some p→(runL sp base 0 l S).inf[j]?=some (ifo j p):=fun j p hj=>by
  rw [qq7,hj];simp
 have hM:∀ (i:Nat) (o:Oper),ops[i]?=some o→(qcz ops.toList []).getD i 0=qgs ((qcz ops.toList []).take i) o.after.toList:=fun i o ho=>by
  have:=qmo (os:=ops.toList) (acc:=[]) (i:=i) (o:=o) (by simpa using ho)
  simp only [wa9,wa7] at this;rw [List.getD,this];rfl
 have hrec:∀ (i:Nat),i<ops.size→∃ p,(recL sp base l S)[i]?=some p:=fun i hi=>by
  have:i<(recL sp base l S).length:=by rw [qf8,hlen];simpa using hi
  exact ⟨_,wab this⟩
 have hord:∀ (j k:Nat) (p q:Rec),(recL sp base l S)[j]?=some p→(recL sp base l S)[k]?=some q→k<j→((qcz ops.toList []).getD j 0).testBit k=true∨Indep (ifo k q) (ifo j p):=fun j k p q hj hk hkj =>
  ((qez hchk) j _ (hinf j p hj)).2.2 k _ hkj (hinf k q hk)
 have hlow:∀ (j k:Nat) (p:Rec),(recL sp base l S)[j]?=some p→((qcz ops.toList []).getD j 0).testBit k=true→k<j:=fun j k p hj hk=>by
  have h1:(qcz ops.toList []).getD j 0<2 ^ j:=((qez hchk) j _ (hinf j p hj)).1
  rcases Nat.lt_or_ge k j with h | h
  ·exact h
  ·rw [Nat.testBit_lt_two_pow (Nat.lt_of_lt_of_le h1 (Nat.pow_le_pow_right (by omega) h))] at hk;cases hk
 have hend:∀ (listed:Array Bool) (Γ:Cx) (a:Act) (w:World),(∀ i,i<ops.size→listed.getD i false=true) →
   Emb Γ (appS (recL sp base l S) (fun k=>listed.getD k false) S) a w→Ext Γ0 S.H w0 Γ (appS (recL sp base l S) (fun k=>listed.getD k false) S).H w→Q .normal a w:=fun listed Γ a w hall em hx=>by
  have he:appS (recL sp base l S) (fun k=>listed.getD k false) S=(runL sp base 0 l S).S:=by
   rw [q2n,← qkj _ 0];refine qb2 _ 0 _ fun k e hk hne=>?_
   have:k<ops.size:=by
    have h1:k<(recL sp base l S).length:=by
     rcases Nat.lt_or_ge k (recL sp base l S).length with h | h
     ·exact h
     ·rw [wac h] at hk;cases hk
    rw [qf8,hlen] at h1;simpa using h1
   exact absurd (by simp only [wa7];exact hall k this) hne
  rw [he] at em hx;exact hq Γ a w hx em
 have hnone:∀ (listed:Array Bool),listed.size=ops.size→Region.ready .any ops listed=[]→∀ i,i<ops.size→listed.getD i false=true:=fun listed hs hr i=>by
  induction i using Nat.strongRecOn with
  | _ i ih =>
   intro hi
   cases hl:listed.getD i false with
   | true=>rfl
   | false =>
    exfalso;have:i∈Region.ready .any ops listed:=by
     rw [mem_ready];refine ⟨?_,ops[i],Array.getElem?_eq_getElem hi,fun e he hb=>?_⟩
     ·have hi':i<listed.size:=by omega
      simpa [hi'] using hl
     ·obtain ⟨p,hp⟩:=hrec i hi;have h1:((qcz ops.toList []).getD i 0).testBit e.on=true:=by
       rw [hM i _ (Array.getElem?_eq_getElem hi)];exact qis (by simpa using he) hb
      have h2:=hlow i e.on p hp h1;exact ih e.on h2 (by omega)
    rw [hr] at this;cases this
 intro fuel
 induction fuel with
 | zero =>
  intro listed Γ a w hs hcnt hclosed em hx;have hall:∀ i,i<ops.size→listed.getD i false=true:=fun i hi=>by
   have hi':i<listed.size:=by omega
   have:=List.countP_eq_zero.1 hcnt (listed[i]) (by simp)
   simpa [hi'] using this
  refine ⟨?_,hend listed Γ a w hall em hx⟩
  cases hr:Region.ready .any ops listed with
  | nil=>rfl
  | cons i r =>
   exfalso;have:i∈Region.ready .any ops listed:=by rw [hr];simp
   rw [mem_ready] at this;obtain ⟨h1,o,h2,_⟩:=this;have hi:i<ops.size:=(Array.getElem?_eq_some_iff.1 h2).1;have hi':i<listed.size:=by omega
   have:=hall i hi;simp only [Array.getD,hi',dite_true] at h1 this;rw [h1] at this;cases this
 | succ fuel ih =>
  intro listed Γ a w hs hcnt hclosed em hx;refine ⟨fun hr=>hend listed Γ a w (hnone listed hs hr) em hx,fun i hi=>?_⟩
  rw [mem_ready] at hi;obtain ⟨hli,o,ho,hedges⟩:=hi;have hin:i<ops.size:=(Array.getElem?_eq_some_iff.1 ho).1;have hil:i<listed.size:=by omega
  have hLi:listed.getD i false=false:=by simpa [hil] using hli
  obtain ⟨p,hp⟩:=hrec i hin;obtain ⟨q1,q2⟩:=qr4 i p 0 hp;obtain ⟨ao,g,k',g1,g2,g3⟩:=hget i o (by simpa using ho)
  rw [g1] at q1;simp only [waz] at q1;have hobp:allP p.2.ob:=qsa hob i p hp;have hpre:∀ k,((qcz ops.toList []).getD i 0).testBit k=true→listed.getD k false=true:=fun k hk=>by
   rw [hM i o ho] at hk;obtain ⟨e,he,hb,h⟩:=qf4 hk;have hon:=hedges e (by simpa using he) hb
   rcases h with rfl | h
   ·exact hon
   ·refine hclosed e.on k hon ?_;have:(qcz ops.toList [])[e.on]?≠none→((qcz ops.toList []).take i).getD e.on 0=(qcz ops.toList []).getD e.on 0∨((qcz ops.toList []).take i).getD e.on 0=0:=fun _=>by
     simp only [List.getD,wat];split
     ·exact .inl rfl
     ·exact .inr rfl
    simp only [List.getD,wat] at h;split at h
    ·simpa [List.getD] using h
    ·simp at h
  have hsep:∀ k q,(recL sp base l S)[k]?=some q→listed.getD k false≠decide (k<i)→(k<i∧Indep (ifo k q) (ifo i p))∨(i<k∧Indep (ifo i p) (ifo k q)):=fun k q hk hne=>by
   rcases Nat.lt_trichotomy k i with h | h | h
   ·have hk0:listed.getD k false=false:=by simpa [h] using hne
    refine .inl ⟨h,(hord i k p q hp hk h).resolve_left fun hb=>?_⟩
    rw [hpre k hb] at hk0;cases hk0
   ·subst h;simp [hLi] at hne
   ·have hk1:listed.getD k false=true:=by
     have:¬ k<i:=by omega
     simpa [this] using hne
    refine .inr ⟨h,(hord k i q p hk hp h).resolve_left fun hb=>?_⟩
    rw [hclosed k i hk1 hb] at hLi;cases hLi
  have hrel:GRel sp base (appS (recL sp base l S) (fun k=>listed.getD k false) S) p.1 p.2:=by
   let pre:St:=appS (recL sp base l S) (fun k=>decide (k<i)) S
   have e2:p.2=geff sp base pre.T pre.H p.1:=by rw [q2];simp only [wa7];rfl
   have mv:Eqs pre.T (appS (recL sp base l S) (fun k=>listed.getD k false) S).T p.1.use→(∀ b∈p.2.rd,(appS (recL sp base l S) (fun k=>listed.getD k false) S).H[b]?=pre.H[b]?)→(∀ q∈p.2.up,(appS (recL sp base l S) (fun k=>listed.getD k false) S).H[q.1]?=pre.H[q.1]?)→GRel sp base (appS (recL sp base l S) (fun k=>listed.getD k false) S) p.1 p.2:=by
    rw [e2] at hobp ⊢;exact qtc hfr hobp
   refine mv ?_ ?_ ?_
   ·intro n hn;rw [qm0,qm0];show ((appS _ _ S).T[n]?).getD _=_;rw [qo4,qo4];congr 1;refine qb2 _ 0 _ fun k q hk hne=>?_
    rw [wa7] at hne
    rcases hsep k q hk (Ne.symm hne) with ⟨_,h⟩ | ⟨_,h⟩
    ·exact qk9 (h.du n hn)
    ·exact qk9 (h.ud n hn)
   ·intro b hb;show (appS _ _ S).H[b]?=(appS _ _ S).H[b]?;rw [qig,qig];refine qb2 _ 0 _ fun k q hk hne=>?_
    rw [wa7] at hne
    rcases hsep k q hk hne with ⟨_,h⟩ | ⟨_,h⟩
    ·exact qfk fun hq=>h.ur b hq hb
    ·exact qfk fun hq=>h.ru b hb hq
   ·intro u hu;have hbu:u.1∈(ifo i p).ups:=List.mem_map_of_mem hu;show (appS _ _ S).H[u.1]?=(appS _ _ S).H[u.1]?;rw [qig,qig];refine qb2 _ 0 _ fun k q hk hne=>?_
    rw [wa7] at hne
    rcases hsep k q hk hne with ⟨_,h⟩ | ⟨_,h⟩
    ·exact qfk fun hq=>h.uu u.1 hq hbu
    ·exact qfk fun hq=>h.uu u.1 hbu hq
  have hadd:appS (recL sp base l S) (fun k=>(listed.setIfInBounds i true).getD k false) S=(appS (recL sp base l S) (fun k=>listed.getD k false) S).step p.1.dst p.2:=by
   have hL:(fun k=>(listed.setIfInBounds i true).getD k false)=addL (fun k=>listed.getD k false) i:=by
    funext k
    by_cases hki:k=i
    ·subst hki;simp [addL,hil]
    ·rw [getD_set_ne false (Ne.symm hki)];simp [addL,hki]
   rw [hL];refine qws hp hLi fun k q hk hq hl=>?_
   rcases hsep k q hq (by rw [hl];simp;omega) with ⟨h,_⟩ | ⟨_,h⟩
   ·omega
   ·exact h
  rw [← q1] at hrel hadd;refine qg6 em hsp base ho g2 g3 hrel fun Γ' a' w' hx' em'=>?_
  refine ih (listed.setIfInBounds i true) Γ' a' w' (by simpa using hs) ?_ ?_ ?_ ?_
  ·rw [Array.toList_setIfInBounds,List.countP_set (by simpa using hil)]
   have:listed.toList[i]=false:=by simpa [hil] using hLi
   simp [this,hcnt]
  ·intro j k hj hk
   by_cases hji:j=i
   ·subst hji;exact getD_set_true (hpre k hk)
   ·rw [getD_set_ne false (Ne.symm hji)] at hj;exact getD_set_true (hclosed j k hj hk)
  ·rw [hadd];exact em'
  ·rw [hadd];exact hx.trans hx'
end
noncomputable section
def qcr (o:AOp):AOp:=match o with
 | ⟨none,.mapup _ _ m x y,none⟩=>⟨none,.mkfn 0 [m,x,y],none⟩
 | o=>o
def upB (o:AOp):Bool:=match o with
 | ⟨none,.mapup _ _ _ _ _,none⟩=>true
 | _=>false
abbrev Ent (k v:Ty):=Den k×Den v
def q08 (k v:Ty) (b:Nat) (o:AOp) (a:AV):Option (Ent k v):=match o with
 | ⟨none,.mapup k' v' _ _ _,none⟩=>match decide (k'=k) && decide (v'=v) with
  | true=>match a with
   | .fn _ (.cons (.mref b') (.cons (.val kt x) (.cons (.val vt y) .nil)))=>match Nat.beq b' b,qa9 kt k x,qa9 vt v y with
    | true,some x,some y=>some (x,y)
    | _,_,_=>none
   | _=>none
  | false=>none
 | _=>none
def litU (k v:Ty) (b:Nat):List AOp→List Rec→Option (List (Option (Ent k v)))
 | [],_=>some []
 | o::os,r::rs=>match upB o with
  | true=>match q08 k v b o r.2.v,litU k v b os rs with
   | some e,some us=>some (some e::us)
   | _,_=>none
  | false=>match litU k v b os rs with
   | some us=>some (none::us)
   | none=>none
 | _::_,[]=>none
def litI (b:Nat):List AOp→List Inf→List Nat→Bool
 | o::os,y::ys,m::ms=>(match upB o with | true=>Nat.testBit m 0 | false=>!memN b y.rd && !memN b y.ups) && litI b os ys ms
 | [],_,_=>true
 | _::_,_,_=>false
def qkt (k v:Ty):List (Option (Ent k v))→Bool
 | []=>true
 | none::us=>qkt k v us
 | some e::us=>us.all (fun u=>match u with | some f=>!deq k e.1 f.1 && !deq k f.1 e.1 | none=>true) && qkt k v us
def litR (sp:Spec) (base:Nat) (ops:List AOp) (ms:List Nat) (S:St):Option RR:=match ops with
 | ⟨some _,.mkmap q k v,none⟩::os=>match runL sp base 0 (ops.map qcr) S with
  | r=>match (qi9 ms [] r.inf && litI (base+q) os r.inf.tail ms.tail) && qcw k with
   | true=>match litU k v (base+q) ops (recL sp base (ops.map qcr) S) with
    | some us=>match qkt k v us with
     | true=>some ⟨r.ob,⟨r.S.T,r.S.H.set (base+q) (.live (.pmap k v (us.filterMap id)))⟩,r.inf⟩
     | false=>none
    | none=>none
   | false=>none
 | _=>none
end
def pick {E:Type}:List (Option E)→Nat→(Nat→Bool)→List E
 | [],_,_=>[]
 | none::us,i,L=>pick us (i+1) L
 | some e::us,i,L=>bif L i then e::pick us (i+1) L else pick us (i+1) L
section
variable {E:Type}
theorem qkh:∀ {us:List (Option E)} {i:Nat} {L L':Nat→Bool},(∀ j,j<us.length→L (i+j)=L' (i+j))→pick us i L=pick us i L'
 | [],_,_,_,_=>rfl
 | u::us,i,L,L',h=>by
  have h0:=h 0 (by simp)
  have ih:=qkh (us:=us) (i:=i+1) (L:=L) (L':=L') fun j hj=>by
   have:=h (j+1) (by simpa using hj)
   rwa [show i+(j+1)=i+1+j by omega] at this
  rw [Nat.add_zero] at h0
  cases u with
  | none=>simp only [pick,ih]
  | some e=>simp only [pick,ih,h0]
theorem qwg:∀ {us:List (Option E)} {i:Nat} {L:Nat→Bool},(∀ j,j<us.length→L (i+j)=true)→pick us i L=us.filterMap id
 | [],_,_,_=>rfl
 | u::us,i,L,h=>by
  have h0:=h 0 (by simp)
  have ih:=qwg (us:=us) (i:=i+1) (L:=L) fun j hj=>by
   have:=h (j+1) (by simpa using hj)
   rwa [show i+(j+1)=i+1+j by omega] at this
  rw [Nat.add_zero] at h0
  cases u with
  | none=>simp [pick,ih]
  | some e=>simp [pick,ih,h0]
theorem qm2:∀ {us:List (Option E)} {i:Nat} {L:Nat→Bool},(∀ j e,us[j]?=some (some e)→L (i+j)=false)→pick us i L=[]
 | [],_,_,_=>rfl
 | u::us,i,L,h=>by
  have ih:=qm2 (us:=us) (i:=i+1) (L:=L) fun j e hj=>by
   have:=h (j+1) e (by simpa using hj)
   rwa [show i+(j+1)=i+1+j by omega] at this
  cases u with
  | none=>simp [pick,ih]
  | some e =>
   have h0:=h 0 e rfl;rw [Nat.add_zero] at h0;simp [pick,ih,h0]
theorem q3k {us:List (Option E)} {i j:Nat} {L:Nat→Bool} (h:us[j]?=some none):pick us i (addL L (i+j))=pick us i L:=by
 induction us generalizing i j with
 | nil=>rfl
 | cons u us ih =>
  cases j with
  | zero =>
   simp only [wa6,waz] at h;subst h;rw [Nat.add_zero];simp only [pick];exact qkh fun j _=>by
    have:(i+1+j == i)=false:=by simp;omega
    simp [addL,this]
  | succ j =>
   have ih:=ih (i:=i+1) (j:=j) (by simpa using h)
   rw [show i+1+j=i+(j+1) by omega] at ih
   have h0:addL L (i+(j+1)) i=L i:=by
    have:(i == i+(j+1))=false:=by simp
    simp [addL,this]
   cases u with
   | none=>simp only [pick,ih]
   | some e=>simp only [pick,ih,h0]
theorem q4t {us:List (Option E)} {i j:Nat} {L:Nat→Bool} {e:E} (h:us[j]?=some (some e)) (hl:L (i+j)=false):(pick us i (addL L (i+j))).Perm (pick us i L++[e]):=by
 induction us generalizing i j with
 | nil=>simp at h
 | cons u us ih =>
  cases j with
  | zero =>
   simp only [wa6,waz] at h;subst h;rw [Nat.add_zero] at hl ⊢;have e1:pick us (i+1) (addL L i)=pick us (i+1) L:=qkh fun j _=>by
    have:(i+1+j == i)=false:=by simp;omega
    simp [addL,this]
   have e2:addL L i i=true:=by simp [addL]
   simp only [pick,e2,hl,e1,wbb,cond_false];exact (List.perm_append_singleton e _).symm
  | succ j =>
   have ih:=ih (i:=i+1) (j:=j) (by simpa using h) (by rwa [show i+1+j=i+(j+1) by omega])
   rw [show i+1+j=i+(j+1) by omega] at ih
   have h0:addL L (i+(j+1)) i=L i:=by
    have:(i == i+(j+1))=false:=by simp
    simp [addL,this]
   cases u with
   | none=>simp only [pick];exact ih
   | some e' =>
    simp only [pick,h0]
    cases L i with
    | true=>exact ih.cons e'
    | false=>exact ih
theorem qvm:∀ {us:List (Option E)} {i:Nat} {L:Nat→Bool} {e:E},e∈pick us i L→∃ j,us[j]?=some (some e)∧L (i+j)=true
 | [],_,_,_,h=>by cases h
 | u::us,i,L,e,h=>by
  have go:e∈pick us (i+1) L→∃ j,(u::us)[j]?=some (some e)∧L (i+j)=true:=fun h=>by
   obtain ⟨j,h1,h2⟩:=qvm h;exact ⟨j+1,by simpa using h1,by rwa [show i+(j+1)=i+1+j by omega]⟩
  cases u with
  | none=>exact go h
  | some e' =>
   simp only [pick] at h
   cases hl:L i with
   | true =>
    rw [hl] at h
    rcases List.mem_cons.1 h with rfl | h
    ·exact ⟨0,rfl,hl⟩
    ·exact go h
   | false=>rw [hl] at h;exact go h
end
theorem qpn {k v:Ty}:∀ {us:List (Option (Ent k v))},qkt k v us=true→∀ (i j:Nat) (e f:Ent k v),i≠j→us[i]?=some (some e)→us[j]?=some (some f)→deq k e.1 f.1=false
 | [],_,_,_,_,_,_,h,_=>by simp at h
 | u::us,h,i,j,e,f,hij,hi,hj=>by
  have ht:qkt k v us=true:=by
   cases u with
   | none=>exact h
   | some g=>simp only [qkt,wa3] at h;exact h.2
  cases i with
  | zero =>
   simp only [wa6,waz] at hi;subst hi
   cases j with
   | zero=>exact absurd rfl hij
   | succ j =>
    simp only [wa4] at hj;simp only [qkt,wa3,wbj] at h;have:=h.1 _ (wbi hj);simp only [wa3,Bool.not_eq_true'] at this;exact this.1
  | succ i =>
   simp only [wa4] at hi
   cases j with
   | zero =>
    simp only [wa6,waz] at hj;subst hj;simp only [qkt,wa3,wbj] at h;have:=h.1 _ (wbi hi);simp only [wa3,Bool.not_eq_true'] at this;exact this.2
   | succ j =>
    simp only [wa4] at hj;exact qpn ht i j e f (by omega) hi hj
theorem qrt:∀ {t:Ty} {x:Den t},qcw t=true→deq t x x=true
 | .int _,x,_=>beq_self_eq_true (α:=Int) x
 | .bool,x,_=>beq_self_eq_true (α:=Bool) x
 | .unit,x,_=>rfl
 | .prod a b,x,h=>by
  simp only [qcw,wa3] at h;simp only [deq,wa3];exact ⟨qrt h.1,qrt h.2⟩
 | .slice _,_,h=>by cases h
 | .ptr _,_,h=>by cases h
 | .optr _,_,h=>by cases h
 | .map _ _,_,h=>by cases h
 | .oth,_,h=>by cases h
theorem qrn {k v:Ty} (hk:qcw k=true):∀ {us:List (Option (Ent k v))},qkt k v us=true→(us.filterMap id).Pairwise fun x y=>x.1≠y.1
 | [],_=>by simp
 | none::us,h=>by
  simp only [qkt] at h;simpa using qrn hk h
 | some e::us,h=>by
  simp only [qkt,wa3,wbj] at h;simp only [List.filterMap_cons,id];refine List.pairwise_cons.2 ⟨fun f hf=>?_,qrn hk h.2⟩
  obtain ⟨u,hu,he⟩:=List.mem_filterMap.1 hf;simp only [id] at he;subst he;have:=h.1 _ hu;simp only [wa3,Bool.not_eq_true'] at this;intro hef;have h2:=this.1;rw [← hef,qrt hk] at h2;cases h2
theorem qiu {k v:Ty} {x:Den k} {y:Den v}:∀ {M:List (Ent k v)},(∀ e∈M,deq k x e.1=false)→qcm k v M x y=M++[(x,y)]
 | [],_=>rfl
 | e::M,h=>by
  have h0:=h e (way ..);simp only [qcm,h0,wa2,if_false,wbc];rw [qiu fun f hf=>h f (wam _ hf)]
theorem qrz {k v:Ty} {b:Nat}:∀ {ops:List AOp} {rs:List Rec} {us:List (Option (Ent k v))},litU k v b ops rs=some us→us.length=ops.length ∧
  ∀ (j:Nat) (o:AOp),ops[j]?=some o→∃ r,rs[j]?=some r∧(upB o=true→∃ e,us[j]?=some (some e)∧q08 k v b o r.2.v=some e)∧(upB o=false→us[j]?=some none)
 | [],rs,us,h=>by
  simp only [litU,waz] at h;subst h;exact ⟨rfl,fun j o hj=>by simp at hj⟩
 | o::os,[],us,h=>by simp [litU] at h
 | o::os,r::rs,us,h=>by
  simp only [litU] at h
  cases hu:upB o with
  | true =>
   rw [hu] at h;simp only at h
   cases he:q08 k v b o r.2.v with
   | none=>rw [he] at h;simp at h
   | some e =>
    cases ht:litU k v b os rs with
    | none=>rw [he,ht] at h;simp at h
    | some us' =>
     rw [he,ht] at h;simp only [waz] at h;subst h;obtain ⟨g1,g2⟩:=qrz ht;refine ⟨by simp [g1],fun j o' hj=>?_⟩
     cases j with
     | zero =>
      simp only [wa6,waz] at hj;subst hj;exact ⟨r,rfl,fun _=>⟨e,rfl,he⟩,fun h=>by rw [hu] at h;cases h⟩
     | succ j =>
      simp only [wa4] at hj ⊢;exact g2 j o' hj
  | false =>
   rw [hu] at h;simp only at h
   cases ht:litU k v b os rs with
   | none=>rw [ht] at h;simp at h
   | some us' =>
    rw [ht] at h;simp only [waz] at h;subst h;obtain ⟨g1,g2⟩:=qrz ht;refine ⟨by simp [g1],fun j o' hj=>?_⟩
    cases j with
    | zero =>
     simp only [wa6,waz] at hj;subst hj;exact ⟨r,rfl,(fun h=>by rw [hu] at h;cases h),fun _=>rfl⟩
    | succ j =>
     simp only [wa4] at hj ⊢;exact g2 j o' hj
theorem qq8 {b:Nat}:∀ {os:List AOp} {ys:List Inf} {ms:List Nat},litI b os ys ms=true→∀ (j:Nat) (o:AOp),os[j]?=some o →
  ∃ y m,ys[j]?=some y∧ms[j]?=some m∧(upB o=true→m.testBit 0=true)∧(upB o=false→b∉y.rd∧b∉y.ups)
 | [],_,_,_,_,_,h=>by simp at h
 | o::os,[],_,h,_,_,_=>by simp [litI] at h
 | o::os,_::_,[],h,_,_,_=>by simp [litI] at h
 | o::os,y::ys,m::ms,h,j,o',hj=>by
  simp only [litI,wa3] at h
  cases j with
  | zero =>
   simp only [wa6,waz] at hj;subst hj;refine ⟨y,m,rfl,rfl,fun hu=>?_,fun hu=>?_⟩
   ·have:=h.1;rw [hu] at this;exact this
   ·have:=h.1;rw [hu] at this;simp only [wa3,Bool.not_eq_true'] at this;exact ⟨(fun hm=>by rw [qjq.2 hm] at this;cases this.1),(fun hm=>by rw [qjq.2 hm] at this;cases this.2)⟩
  | succ j =>
   simp only [wa4] at hj ⊢;exact qq8 h.2 j o' hj
theorem qve {o:AOp} (h:upB o=false):qcr o=o:=by
 unfold qcr;split
 ·simp [upB] at h
 ·rfl
theorem qt0 {o:AOp} (h:upB o=true):∃ k v m x y,o=⟨none,.mapup k v m x y,none⟩:=by
 unfold upB at h;split at h
 ·exact ⟨_,_,_,_,_,rfl⟩
 ·cases h
theorem qul {k v k' v':Ty} {b:Nat} {m x y:Od} {a:AV} {e:Ent k v} (h:q08 k v b ⟨none,.mapup k' v' m x y,none⟩ a=some e) :
  k'=k∧v'=v∧∃ f,a=.fn f (.cons (.mref b) (.cons (.val k e.1) (.cons (.val v e.2) .nil))):=by
 simp only [q08] at h;split at h
 ·rename_i hkv;simp only [wa3,wba] at hkv;split at h
  ·rename_i f b' kt x vt y;split at h
   ·rename_i x' y' h1 h2 h3;simp only [waz] at h;subst h;obtain ⟨e1,f1⟩:=qat h2;obtain ⟨e2,f2⟩:=qat h3;subst e1;subst e2;subst f1;subst f2;have:=wai h1;subst this;exact ⟨hkv.1,hkv.2,f,rfl⟩
   ·cases h
  ·cases h
 ·cases h
theorem qto {b:Nat} {X:Hs}:∀ {up:List (Nat×Hs)} {H:List Hs},b∉up.map (·.1)→qar (H.set b X) up=(qar H up).set b X
 | [],_,_=>rfl
 | p::up,H,h=>by
  simp only [wbd,List.mem_cons,not_or] at h;simp only [qar];rw [List.set_comm _ _ h.1,qto h.2]
section
variable {P:Program} {sp:Spec}
def putB (b:Nat) (c:Bool) (B:Blk) (S:St):St:=⟨S.T,bif c then S.H.set b (.live B) else S.H⟩
theorem qtp:∀ {up:List (Nat×Hs)} {H:List Hs},(qar H up).length=H.length
 | [],_=>rfl
 | p::up,H=>by simp only [qar];rw [qtp,waj]
theorem qv8 {es:List Rec} {L:Nat→Bool} {S:St}:(appS es L S).H.length=S.H.length:=by
 have h:=qh2 (act:=fun (p:Rec) (S:St)=>S.step p.1.dst p.2) (act':=fun (p:Rec) (n:Nat)=>n) (L:=L) (fun S:St=>S.H.length) (fun e x=>by simp only [St.step];exact qtp) es 0 S
 unfold appS;rw [h];exact qf2 es 0 _ fun k e _ _ x=>rfl
theorem q6m (hsp : SpecOk P sp) (hfr : qcu sp) (base:Nat) {ms : List Nat} {ops : Array Oper} {l : List AOp} {m : Nat} (hc : cReg P ms ops ops.toList 0 = some (l, m)) {S : St}
    {d0 q:Nat} {k v:Ty} {os:List AOp} (hl:l=⟨some d0,.mkmap q k v,none⟩::os)
    (hob:allP (runL sp base 0 (l.map qcr) S).ob) (hchk:qi9 (qcz ops.toList []) [] (runL sp base 0 (l.map qcr) S).inf=true)
    (hli:litI (base+q) os (runL sp base 0 (l.map qcr) S).inf.tail (qcz ops.toList []).tail=true) (hek:qcw k=true)
    {us:List (Option (Ent k v))} (hus:litU k v (base+q) l (recL sp base (l.map qcr) S)=some us) (hdu:qkt k v us=true)
    {Q:Exit→Act→World→Prop} {Γ0:Cx} {w0:World}
    (hq:∀ Γ' a' w',Ext Γ0 S.H w0 Γ' ((runL sp base 0 (l.map qcr) S).S.H.set (base+q) (.live (.pmap k v (us.filterMap id)))) w' →
      Emb Γ' ⟨(runL sp base 0 (l.map qcr) S).S.T,(runL sp base 0 (l.map qcr) S).S.H.set (base+q) (.live (.pmap k v (us.filterMap id)))⟩ a' w'→Q .normal a' w') :
    ∀ (fuel:Nat) (listed:Array Bool) (Γ:Cx) (a:Act) (w:World) (M:List (Ent k v)),listed.size=ops.size→listed.toList.countP (!·)=fuel →
      (∀ j i,listed.getD j false=true→((qcz ops.toList []).getD j 0).testBit i=true→listed.getD i false=true) →
      M.Perm (pick us 0 (fun i=>listed.getD i false)) →
      Emb Γ (putB (base+q) (listed.getD 0 false) (.map k v M) (appS (recL sp base (l.map qcr) S) (fun i=>listed.getD i false) S)) a w →
      Ext Γ0 S.H w0 Γ (putB (base+q) (listed.getD 0 false) (.map k v M) (appS (recL sp base (l.map qcr) S) (fun i=>listed.getD i false) S)).H w →
      wpAny P .any ops Q fuel listed a w:=by
  obtain ⟨hlen,hcget⟩:=qq5 hc;generalize hb:base+q=b at *;generalize hes:recL sp base (l.map qcr) S=es at *;have hinf:∀ (j:Nat) (p:Rec),es[j]?=some p→(runL sp base 0 (l.map qcr) S).inf[j]?=some (ifo j p):=fun j p hj=>by
    rw [qq7,hes,hj];simp
  have hM:∀ (i:Nat) (o:Oper),ops[i]?=some o→(qcz ops.toList []).getD i 0=qgs ((qcz ops.toList []).take i) o.after.toList:=fun i o ho=>by
    have:=qmo (os:=ops.toList) (acc:=[]) (i:=i) (o:=o) (by simpa using ho)
    simp only [wa9,wa7] at this;rw [List.getD,this];rfl
  have hrlen:es.length=ops.size:=by rw [← hes,qf8,List.length_map,hlen];simp
  have hrec:∀ (i:Nat),i<ops.size→∃ p,es[i]?=some p:=fun i hi=>⟨_,wab (show i<es.length by omega)⟩
  have hord:∀ (j i:Nat) (p q:Rec),es[j]?=some p→es[i]?=some q→i<j→((qcz ops.toList []).getD j 0).testBit i=true∨Indep (ifo i q) (ifo j p):=fun j i p q hj hk hkj =>
    ((qez hchk) j _ (hinf j p hj)).2.2 i _ hkj (hinf i q hk)
  have hlow:∀ (j i:Nat) (p:Rec),es[j]?=some p→((qcz ops.toList []).getD j 0).testBit i=true→i<j:=fun j i p hj hk=>by
    have h1:(qcz ops.toList []).getD j 0<2 ^ j:=((qez hchk) j _ (hinf j p hj)).1
    rcases Nat.lt_or_ge i j with h | h
    · exact h
    · rw [Nat.testBit_lt_two_pow (Nat.lt_of_lt_of_le h1 (Nat.pow_le_pow_right (by omega) h))] at hk;cases hk
  obtain ⟨huslen,husget⟩:=qrz hus;have h0:es[0]?=some ((⟨some d0,.mkmap q k v,none⟩:AOp),geff sp base S.T S.H ⟨some d0,.mkmap q k v,none⟩):=by
    rw [← hes,hl];rfl
  have hob0:allP (geff sp base S.T S.H ⟨some d0,.mkmap q k v,none⟩).ob:=by
    exact qsa hob 0 ((⟨some d0,.mkmap q k v,none⟩:AOp),geff sp base S.T S.H ⟨some d0,.mkmap q k v,none⟩) (by rw [hes];exact h0)
  have hfree:qay S.H b=true:=by
    by_cases hf:qay S.H (base+q)=true
    · rw [← hb];exact hf
    · exfalso
      simp only [geff,aeff,hf] at hob0;exact qaa hob0
  have hg0:geff sp base S.T S.H ⟨some d0,.mkmap q k v,none⟩=⟨[],.mref b,[(b,.live (.map k v []))],[]⟩:=by
    simp only [geff,aeff,hb,hfree,if_true]
  rw [hg0] at h0;have hblt:b<S.H.length:=by
    unfold qay at hfree;split at hfree
    · rename_i h
      rcases Nat.lt_or_ge b S.H.length with h1 | h1
      · exact h1
      · rw [wac h1] at h;cases h
    · cases hfree
  have hrg:∀ (j:Nat) (p:Rec),es[j]?=some p→∃ o,l[j]?=some o∧p.1=qcr o∧p.2=geff sp base (qc6 (fun (p:Rec) S=>S.step p.1.dst p.2) es 0 (fun i=>decide (i<0+j)) S).T (qc6 (fun (p:Rec) S=>S.step p.1.dst p.2) es 0 (fun i=>decide (i<0+j)) S).H p.1:=fun j p hj=>by
    have h:=qr4 (sp:=sp) (base:=base) (l:=l.map qcr) (S:=S) j p 0 (by rw [hes];exact hj)
    rw [hes] at h;obtain ⟨h1,h2⟩:=h;rw [wao,Option.map_eq_some_iff] at h1;obtain ⟨o,ho,e⟩:=h1;exact ⟨o,ho,e.symm,h2⟩
  have hfar:∀ (j:Nat) (p:Rec),es[j]?=some p→0<j→b∉p.2.rd∧b∉p.2.up.map (·.1):=fun j p hj h1=>by
    obtain ⟨o,ho,e1,e2⟩:=hrg j p hj
    cases hu:upB o with
    | true =>
      obtain ⟨k',v',mm,x,y,rfl⟩:=qt0 hu;simp only [qcr] at e1;rw [e2,e1];simp [geff,aeff,Ef.ok]
    | false =>
      obtain ⟨j,rfl⟩:∃ i,j=i+1:=⟨j-1,by omega⟩
      rw [hl,wa4] at ho;obtain ⟨y,m',y1,_,_,y2⟩:=qq8 hli j o ho;have hi:=hinf (j+1) p hj;have:(runL sp base 0 (l.map qcr) S).inf.tail[j]?=some (ifo (j+1) p):=by rw [List.getElem?_tail];exact hi
      rw [this] at y1;cases y1;exact y2 hu
  have hup0:∀ (j:Nat) (o:AOp),l[j]?=some o→upB o=true→0<j∧((qcz ops.toList []).getD j 0).testBit 0=true:=fun j o ho hu=>by
    cases j with
    | zero =>
      rw [hl] at ho;simp only [wa6,waz] at ho;subst ho;cases hu
    | succ j =>
      rw [hl,wa4] at ho;obtain ⟨y,m',_,y1,y2,_⟩:=qq8 hli j o ho;refine ⟨by omega,?_⟩
      rw [List.getElem?_tail] at y1;rw [List.getD,y1];exact y2 hu
  have hnone:∀ (listed:Array Bool),listed.size=ops.size→Region.ready .any ops listed=[]→∀ i,i<ops.size→listed.getD i false=true:=fun listed hs hr i=>by
    induction i using Nat.strongRecOn with
    | _ i ih =>
      intro hi
      cases hl:listed.getD i false with
      | true=>rfl
      | false =>
        exfalso;have:i∈Region.ready .any ops listed:=by
          rw [mem_ready];refine ⟨?_,ops[i],Array.getElem?_eq_getElem hi,fun e he hb=>?_⟩
          · have hi':i<listed.size:=by omega
            simpa [hi'] using hl
          · obtain ⟨p,hp⟩:=hrec i hi
            have h1:((qcz ops.toList []).getD i 0).testBit e.on=true:=by
              rw [hM i _ (Array.getElem?_eq_getElem hi)];exact qis (by simpa using he) hb
            have h2:=hlow i e.on p hp h1;exact ih e.on h2 (by omega)
        rw [hr] at this;cases this
  have hend : ∀ (listed : Array Bool) (Γ : Cx) (a : Act) (w : World) (M : List (Ent k v)), (∀ i, i < ops.size → listed.getD i false = true) → M.Perm (pick us 0 (fun i => listed.getD i false)) →
      Emb Γ (putB b (listed.getD 0 false) (.map k v M) (appS es (fun i=>listed.getD i false) S)) a w→Ext Γ0 S.H w0 Γ (putB b (listed.getD 0 false) (.map k v M) (appS es (fun i=>listed.getD i false) S)).H w→Q .normal a w:=fun listed Γ a w M hall hMp em hx=>by
    have hpos : 0 < ops.size := by rw [← hrlen]; rw [← hrlen] at *; rcases Nat.lt_or_ge 0 es.length with h | h
                                   · exact h
                                   · rw [wac h] at h0;cases h0
    have he:appS es (fun i=>listed.getD i false) S=(runL sp base 0 (l.map qcr) S).S:=by
      rw [q2n,hes,← qkj _ 0];refine qb2 _ 0 _ fun i e hk hne=>?_
      have:i<ops.size:=by
        rcases Nat.lt_or_ge i es.length with h | h
        · omega
        · rw [wac h] at hk;cases hk
      exact absurd (by simp only [wa7];exact hall i this) hne
    rw [he,hall 0 hpos] at em hx;have hpk:pick us 0 (fun i=>listed.getD i false)=us.filterMap id:=qwg fun j hj=>by
      rw [wa7];exact hall j (by rw [huslen,hlen] at hj;simpa using hj)
    rw [hpk] at hMp;simp only [putB,wbb] at em hx;have hHlen:b<(runL sp base 0 (l.map qcr) S).S.H.length:=by rw [← he,qv8];exact hblt
    have hb1:((runL sp base 0 (l.map qcr) S).S.H.set b (.live (.map k v M)))[b]?=some (.live (.map k v M)):=by
      rw [List.getElem?_set_self (by simpa using hHlen)]
    have hB:=em.heap.blk b _ hb1;simp only [RepB] at hB;obtain ⟨hk0,ents,cl,g1,g2,g3⟩:=hB;have hB2:RepB w Γ b (.pmap k v (us.filterMap id)):=by
      simp only [RepB];exact ⟨M,hMp,qrn hek hdu,hk0,ents,cl,g1,g2,g3⟩
    obtain ⟨em2,hx2⟩:=em.heap.write hb1 hk0 (fun _ _=>rfl) (wad _) rfl rfl hB2
    rw [List.set_set] at em2 hx2;refine hq Γ a w (hx.trans hx2) ⟨em.defers,em.size,fun i x hix=>?_,em2⟩
    obtain ⟨y,hy1,hy2⟩:=em.tmp i x hix;exact ⟨y,hy1,Ra.ext em.heap hx2 hy2⟩
  intro fuel
  induction fuel with
  | zero =>
    intro listed Γ a w M hs hcnt hclosed hMp em hx;have hall:∀ i,i<ops.size→listed.getD i false=true:=fun i hi=>by
      have hi':i<listed.size:=by omega
      have:=List.countP_eq_zero.1 hcnt (listed[i]) (by simp)
      simpa [hi'] using this
    refine ⟨?_,hend listed Γ a w M hall hMp em hx⟩
    cases hr:Region.ready .any ops listed with
    | nil=>rfl
    | cons i r =>
      exfalso;have:i∈Region.ready .any ops listed:=by rw [hr];simp
      rw [mem_ready] at this;obtain ⟨h1,o,h2,_⟩:=this;have hi:i<ops.size:=(Array.getElem?_eq_some_iff.1 h2).1;have hi':i<listed.size:=by omega
      have:=hall i hi;simp only [Array.getD,hi',dite_true] at h1 this;rw [h1] at this;cases this
  | succ fuel ih =>
    intro listed Γ a w M hs hcnt hclosed hMp em hx;refine ⟨fun hr=>hend listed Γ a w M (hnone listed hs hr) hMp em hx,fun i hi=>?_⟩
    rw [mem_ready] at hi;obtain ⟨hli',o,ho,hedges⟩:=hi;have hin:i<ops.size:=(Array.getElem?_eq_some_iff.1 ho).1;have hil:i<listed.size:=by omega
    have hLi:listed.getD i false=false:=by simpa [hil] using hli'
    obtain ⟨p,hp⟩:=hrec i hin;obtain ⟨lo,hlo,q1,q2⟩:=hrg i p hp;obtain ⟨ao,g,k',g1,g2,g3⟩:=hcget i o (by simpa using ho)
    rw [hlo] at g1;simp only [waz] at g1;have hobp:allP p.2.ob:=qsa hob i p (by rw [hes];exact hp)
    have hpre:∀ j,((qcz ops.toList []).getD i 0).testBit j=true→listed.getD j false=true:=fun j hk=>by
      rw [hM i o ho] at hk;obtain ⟨e,he,hb,h⟩:=qf4 hk;have hon:=hedges e (by simpa using he) hb
      rcases h with rfl | h
      · exact hon
      · refine hclosed e.on j hon ?_
        simp only [List.getD,wat] at h;split at h
        · simpa [List.getD] using h
        · simp at h
    have hsep:∀ j q,es[j]?=some q→listed.getD j false≠decide (j<i)→(j<i∧Indep (ifo j q) (ifo i p))∨(i<j∧Indep (ifo i p) (ifo j q)):=fun j q hk hne=>by
      rcases Nat.lt_trichotomy j i with h | h | h
      · have hk0:listed.getD j false=false:=by simpa [h] using hne
        refine .inl ⟨h,(hord i j p q hp hk h).resolve_left fun hb=>?_⟩
        rw [hpre j hb] at hk0;cases hk0
      · subst h
        simp [hLi] at hne
      · have hk1 : listed.getD j false = true := by
          have:¬ j<i:=by omega
          simpa [this] using hne
        refine .inr ⟨h,(hord j i q p hk hp h).resolve_left fun hb=>?_⟩
        rw [hclosed j i hk1 hb] at hLi;cases hLi
    have hTm:Eqs (qc6 (fun (p:Rec) S=>S.step p.1.dst p.2) es 0 (fun j=>decide (j<0+i)) S).T (appS es (fun j=>listed.getD j false) S).T p.1.use:=by
      intro n hn;rw [qm0,qm0];show ((appS es (fun j=>decide (j<0+i)) S).T[n]?).getD _=_
      rw [qo4,qo4];congr 1;refine qb2 _ 0 _ fun j q hk hne=>?_
      rw [wa7,wa7] at hne
      rcases hsep j q hk (Ne.symm hne) with ⟨_,h⟩ | ⟨_,h⟩
      · exact qk9 (h.du n hn)
      · exact qk9 (h.ud n hn)
    have hadd:appS es (fun j=>(listed.setIfInBounds i true).getD j false) S=(appS es (fun j=>listed.getD j false) S).step p.1.dst p.2:=by
      have hL:(fun j=>(listed.setIfInBounds i true).getD j false)=addL (fun j=>listed.getD j false) i:=by
        funext j
        by_cases hki:j=i
        · subst hki
          simp [addL,hil]
        · rw [getD_set_ne false (Ne.symm hki)]
          simp [addL,hki]
      rw [hL];refine qws hp hLi fun j q hk hq hl=>?_
      rcases hsep j q hq (by rw [hl];simp;omega) with ⟨h,_⟩ | ⟨_,h⟩
      · omega
      · exact h
    have hLadd:(fun j=>(listed.setIfInBounds i true).getD j false)=addL (fun j=>listed.getD j false) (0+i):=by
      funext j;rw [wa7]
      by_cases hki:j=i
      · subst hki
        simp [addL,hil]
      · rw [getD_set_ne false (Ne.symm hki)]
        simp [addL,hki]
    have hgo : ∀ (Γ' : Cx) (a' : Act) (w' : World) (M' : List (Ent k v)), M'.Perm (pick us 0 (fun j => (listed.setIfInBounds i true).getD j false)) →
        Emb Γ' (putB b ((listed.setIfInBounds i true).getD 0 false) (.map k v M') (appS es (fun j=>(listed.setIfInBounds i true).getD j false) S)) a' w' →
        Ext Γ0 S.H w0 Γ' (putB b ((listed.setIfInBounds i true).getD 0 false) (.map k v M') (appS es (fun j=>(listed.setIfInBounds i true).getD j false) S)).H w' →
        wpAny P .any ops Q fuel (listed.setIfInBounds i true) a' w':=fun Γ' a' w' M' hMp' em' hx'=>by
      refine ih (listed.setIfInBounds i true) Γ' a' w' M' (by simpa using hs) ?_ ?_ hMp' em' hx'
      · rw [Array.toList_setIfInBounds,List.countP_set (by simpa using hil)]
        have:listed.toList[i]=false:=by simpa [hil] using hLi
        simp [this,hcnt]
      · intro j j2 hj hk
        by_cases hji:j=i
        · subst hji
          exact getD_set_true (hpre j2 hk)
        · rw [getD_set_ne false (Ne.symm hji)] at hj
          exact getD_set_true (hclosed j j2 hj hk)
    obtain ⟨ur,hur,hus1,hus2⟩:=husget i lo hlo;rw [hp] at hur;cases hur
    cases hu:upB lo with
    | true =>
      obtain ⟨hi0,hbit⟩:=hup0 i lo hlo hu;have hL0:=hpre 0 hbit;obtain ⟨en,hen,hent⟩:=hus1 hu;obtain ⟨k1,v1,mm,x,y,rfl⟩:=qt0 hu;obtain ⟨rfl,rfl,f,hv⟩:=qul hent;simp only [qcr] at q1;have hpe:p.2=⟨[],.fn 0 (toAV [ev (qc6 (fun (p:Rec) S=>S.step p.1.dst p.2) es 0 (fun j=>decide (j<0+i)) S).T mm,ev (qc6 (fun (p:Rec) S=>S.step p.1.dst p.2) es 0 (fun j=>decide (j<0+i)) S).T x,ev (qc6 (fun (p:Rec) S=>S.step p.1.dst p.2) es 0 (fun j=>decide (j<0+i)) S).T y]),[],[]⟩:=by
        rw [q2,q1];simp only [geff,aeff,Ef.ok,wbd,List.map_nil]
      have huse:p.1.use=mm.use++x.use++y.use:=by
        rw [q1];simp [AOp.use,AO.use]
      rw [huse] at hTm;have t1:=qaz hTm.left.left;have t2:=qaz hTm.left.right;have t3:=qaz hTm.right;rw [hpe] at hv;simp only [toAV,AV.fn.injEq,AV.cons.injEq,and_true] at hv;obtain ⟨_,v1',v2',v3'⟩:=hv;rw [v1'] at t1;rw [v2'] at t2;rw [v3'] at t3;rw [hL0] at em hx;simp only [putB,wbb] at em hx;have hb1:((appS es (fun j=>listed.getD j false) S).H.set b (.live (.map k1 v1 M)))[b]?=some (.live (.map k1 v1 M)):=by
        rw [List.getElem?_set_self (by rw [qv8];exact hblt)]
      have hg1:hget ((appS es (fun j=>listed.getD j false) S).H.set b (.live (.map k1 v1 M))) b=some (.map k1 v1 M):=by
        unfold hget;rw [hb1]
      have hrel:GRel sp base ⟨(appS es (fun j=>listed.getD j false) S).T,(appS es (fun j=>listed.getD j false) S).H.set b (.live (.map k1 v1 M))⟩ ⟨o.dst,ao,g⟩ ⟨[],.undef,[(b,.live (.map k1 v1 (qcm k1 v1 M en.1 en.2)))],[b]⟩:=by
        rw [← g1];have e1:aeff sp base (appS es (fun j=>listed.getD j false) S).T ((appS es (fun j=>listed.getD j false) S).H.set b (.live (.map k1 v1 M))) (.mapup k1 v1 mm x y)=⟨[],.undef,[(b,.live (.map k1 v1 (qcm k1 v1 M en.1 en.2)))],[b]⟩:=by
          have c1:asD k1 (.val k1 en.1)=some en.1:=qcl;have c2:asD v1 (.val v1 en.2)=some en.2:=qcl;have c3:qs8 k1 v1 k1 v1 M=some M:=qcl;rw [aeff];simp only [p1,← t1,← t2,← t3,peel,c1,c2,hg1,c3,hek,if_true,List.nil_append]
        simp only [GRel,e1];refine ⟨allP_nil,?_,?_⟩<;>trivial
      refine qg6 em hsp base ho g2 g3 hrel fun Γ' a' w' hx' em'=>?_
      have hnew:∀ e∈M,deq k1 en.1 e.1=false:=fun e he=>by
        obtain ⟨j,hj1,hj2⟩:=qvm (hMp.mem_iff.1 he);rw [wa7] at hj2;refine qpn hdu i j en e (fun hij=>?_) hen hj1
        subst hij;rw [hLi] at hj2;cases hj2
      have ed:o.dst=none:=by injection g1 with h1 h2 h3;exact h1.symm
      have happ:appS es (fun j=>(listed.setIfInBounds i true).getD j false) S=appS es (fun j=>listed.getD j false) S:=by
        rw [hadd,q1,hpe];rfl
      have hl0':(listed.setIfInBounds i true).getD 0 false=true:=getD_set_true hL0;refine hgo Γ' a' w' (M++[en]) ?_ ?_ ?_
      · rw [hLadd]
        exact (hMp.append_right [en]).trans (q4t hen (by rw [wa7];exact hLi)).symm
      · rw [happ,hl0']
        simp only [putB,wbb];rw [ed,qiu hnew] at em';simp only [setT,qar,List.set_set] at em';exact em'
      · rw [happ,hl0']
        simp only [putB,wbb];rw [qiu hnew] at hx';simp only [qar,List.set_set] at hx';exact hx.trans hx'
    | false =>
      rw [qve hu] at q1;have hpk:pick us 0 (fun j=>(listed.setIfInBounds i true).getD j false)=pick us 0 (fun j=>listed.getD j false):=by
        rw [hLadd];exact q3k (hus2 hu)
      have hrel0:∀ (S1:St),S1.T=(appS es (fun j=>listed.getD j false) S).T→(∀ c,c∈p.2.rd∨c∈p.2.up.map (·.1)→S1.H[c]?=(appS es (fun j=>listed.getD j false) S).H[c]?)→GRel sp base S1 p.1 p.2:=fun S1 hT1 hH1=>by
        have mv:Eqs (qc6 (fun (p:Rec) S=>S.step p.1.dst p.2) es 0 (fun j=>decide (j<0+i)) S).T S1.T p.1.use→(∀ c∈p.2.rd,S1.H[c]?=(qc6 (fun (p:Rec) S=>S.step p.1.dst p.2) es 0 (fun j=>decide (j<0+i)) S).H[c]?)→(∀ u∈p.2.up,S1.H[u.1]?=(qc6 (fun (p:Rec) S=>S.step p.1.dst p.2) es 0 (fun j=>decide (j<0+i)) S).H[u.1]?)→GRel sp base S1 p.1 p.2:=by
          rw [q2] at hobp;have:=qtc (S':=S1) hfr hobp;rw [← q2] at this;exact this
        refine mv (by rw [hT1];exact hTm) ?_ ?_
        · intro c hc
          rw [hH1 c (.inl hc)];show (appS _ _ S).H[c]?=(appS _ _ S).H[c]?;rw [qig,qig];refine qb2 _ 0 _ fun j q hk hne=>?_
          rw [wa7,wa7] at hne
          rcases hsep j q hk hne with ⟨_,h⟩ | ⟨_,h⟩
          · exact qfk fun hq=>h.ur c hq hc
          · exact qfk fun hq=>h.ru c hc hq
        · intro u hu2
          have hbu:u.1∈(ifo i p).ups:=List.mem_map_of_mem hu2;rw [hH1 u.1 (.inr (List.mem_map_of_mem hu2))];show (appS _ _ S).H[u.1]?=(appS _ _ S).H[u.1]?;rw [qig,qig];refine qb2 _ 0 _ fun j q hk hne=>?_
          rw [wa7,wa7] at hne
          rcases hsep j q hk hne with ⟨_,h⟩ | ⟨_,h⟩
          · exact qfk fun hq=>h.uu u.1 hq hbu
          · exact qfk fun hq=>h.uu u.1 hbu hq
      have ep:p.1=⟨o.dst,ao,g⟩:=q1.trans g1
      by_cases hi0:i=0
      · subst hi0
        have hM0:M=[]:=by
          have:pick us 0 (fun j=>listed.getD j false)=[]:=qm2 fun j e hj=>by
            rw [wa7]
            cases hlj:listed.getD j false with
            | false=>rfl
            | true =>
              exfalso;have hjl:j<l.length:=by
                rw [← huslen]
                rcases Nat.lt_or_ge j us.length with h | h
                · exact h
                · rw [wac h] at hj;cases hj
              obtain ⟨r,_,r1,r2⟩:=husget j _ (wab hjl)
              cases huj:upB l[j] with
              | true =>
                have:=(hup0 j _ (wab hjl) huj).2;rw [hclosed j 0 hlj this] at hLi;cases hLi
              | false=>rw [r2 huj] at hj;cases hj
          rw [this] at hMp;exact hMp.eq_nil
        subst hM0;rw [h0] at hp;cases hp;rw [hLi] at em hx;simp only [putB,cond_false] at em hx;have hrel:=hrel0 (appS es (fun j=>listed.getD j false) S) rfl fun _ _=>rfl
        rw [ep] at hrel;refine qg6 em hsp base ho g2 g3 hrel fun Γ' a' w' hx' em'=>?_
        have hl0':(listed.setIfInBounds 0 true).getD 0 false=true:=by simp [hil]
        have ed:o.dst=some d0:=by injection ep with h1 h2 h3;exact h1.symm
        refine hgo Γ' a' w' [] (by rw [hpk];exact hMp) ?_ ?_
        · rw [hadd,hl0']
          simp only [putB,wbb,St.step,qar,List.set_set];rw [ed] at em';simp only [qar] at em';exact em'
        · rw [hadd,hl0']
          simp only [putB,wbb,St.step,qar,List.set_set];simp only [qar] at hx';exact hx.trans hx'
      · obtain ⟨hf1,hf2⟩:=hfar i p hp (by omega)
        have hl0':(listed.setIfInBounds i true).getD 0 false=listed.getD 0 false:=getD_set_ne false hi0;have hrel:=hrel0 (putB b (listed.getD 0 false) (.map k v M) (appS es (fun j=>listed.getD j false) S)) rfl fun c hc=>by
          have hcb:b≠c:=fun h=>by
            subst h
            rcases hc with h | h
            · exact hf1 h
            · exact hf2 h
          unfold putB
          cases listed.getD 0 false with
          | true=>simp only [wbb];rw [wah hcb]
          | false=>rfl
        rw [ep] at hrel;refine qg6 em hsp base ho g2 g3 hrel fun Γ' a' w' hx' em'=>?_
        have hst : (⟨setT (putB b (listed.getD 0 false) (.map k v M) (appS es (fun j => listed.getD j false) S)).T o.dst p.2.v, qar (putB b (listed.getD 0 false) (.map k v M) (appS es (fun j => listed.getD j false) S)).H p.2.up⟩ : St) =
            putB b ((listed.setIfInBounds i true).getD 0 false) (.map k v M) (appS es (fun j=>(listed.setIfInBounds i true).getD j false) S):=by
          rw [hl0',hadd,ep];unfold putB St.step
          cases listed.getD 0 false with
          | true=>simp only [wbb];rw [qto hf2]
          | false=>rfl
        refine hgo Γ' a' w' M (by rw [hpk];exact hMp) (by rw [← hst];exact em') ?_
        rw [← hst];exact hx.trans hx'
theorem qse {base:Nat} {l:List AOp} {ms:List Nat} {S:St} {r:RR} (h:litR sp base l ms S=some r) :
  ∃ d0 q k v os us,l=⟨some d0,.mkmap q k v,none⟩::os∧qi9 ms [] (runL sp base 0 (l.map qcr) S).inf=true∧litI (base+q) os (runL sp base 0 (l.map qcr) S).inf.tail ms.tail=true∧qcw k=true ∧
   litU k v (base+q) l (recL sp base (l.map qcr) S)=some us∧qkt k v us=true ∧
   r=⟨(runL sp base 0 (l.map qcr) S).ob,⟨(runL sp base 0 (l.map qcr) S).S.T,(runL sp base 0 (l.map qcr) S).S.H.set (base+q) (.live (.pmap k v (us.filterMap id)))⟩,(runL sp base 0 (l.map qcr) S).inf⟩:=by
 unfold litR at h;split at h
 ·rename_i d0 q k v os;simp only at h;split at h
  ·rename_i hb;simp only [wa3] at hb;split at h
   ·rename_i us hus;split at h
    ·rename_i hd;simp only [waz] at h;exact ⟨d0,q,k,v,os,us,rfl,hb.1.1,hb.1.2,hb.2,hus,hd,h.symm⟩
    ·cases h
   ·cases h
  ·cases h
 ·cases h
theorem q3c (hsp:SpecOk P sp) (hfr:qcu sp) (base:Nat) {ms:List Nat} {ops:Array Oper} {l:List AOp} {m:Nat} (hc:cReg P ms ops ops.toList 0=some (l,m)) {S:St} {r:RR}
  (hr:litR sp base l (qcz ops.toList []) S=some r) (hob:allP r.ob) {Q:Exit→Act→World→Prop} {Γ0:Cx} {w0:World}
  (hq:∀ Γ' a' w',Ext Γ0 S.H w0 Γ' r.S.H w'→Emb Γ' r.S a' w'→Q .normal a' w') (fuel:Nat) (listed:Array Bool) (Γ:Cx) (a:Act) (w:World) (hs:listed.size=ops.size) (hcnt:listed.toList.countP (!·)=fuel)
  (hno:∀ j,listed.getD j false=false) (em:Emb Γ S a w) (hx:Ext Γ0 S.H w0 Γ S.H w):wpAny P .any ops Q fuel listed a w:=by
 obtain ⟨d0,q,k,v,os,us,hl,h1,h2,h3,h4,h5,rfl⟩:=qse hr;have e0:putB (base+q) (listed.getD 0 false) (.map k v []) (appS (recL sp base (l.map qcr) S) (fun i=>listed.getD i false) S)=S:=by
  rw [hno];have:appS (recL sp base (l.map qcr) S) (fun i=>listed.getD i false) S=S:=qf2 _ _ _ fun i e _ hl=>by rw [hno] at hl;cases hl
  rw [this];rfl
 refine q6m hsp hfr base hc hl hob h1 h2 h3 h4 h5 hq fuel listed Γ a w [] hs hcnt (fun j i hj _=>by rw [hno] at hj;cases hj) ?_ (by rw [e0];exact em) (by rw [e0];exact hx)
 rw [qm2 fun j e _=>hno _]
end
end Go.Ab
