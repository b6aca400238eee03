/- From a law's contract to what the given statement's frame asks for. -/
import Derived.Test.YtieimmiiaabpgaaGreatAR
import Derived.ChangeSame
import Derived.ChangeStays
import Derived.ChangeArms
set_option linter.unusedVariables false
namespace Go.Ab
structure Old (w w':World):Prop where
 fr:∀ n,n<w.heap.size→w'.heap[n]?=w.heap[n]?
 size:w.heap.size≤w'.heap.size
 os:w'.os=w.os
 out:w'.output=w.output
theorem law_calls {P:Program} {f:FuncId} {ats:List AT} {pre:Cur (tsA ats) (List Prop)} {F:Cur (tsA ats) (Dens [.bool])} (h:(mkC f ats [.bool] pre F).Ok P)
  {env:List AV} (henv:qc5 (tsA ats) env) {p:List Prop} (hpre:appC (tsA ats) pre env=some p) (hp:allP p) (hF:appC (tsA ats) F env=some (true,()))
  {w:World} {I:Nat→Prop} (hI:∀ n,I n→n<w.heap.size) {vs:List Value} (hargs:Fa w ⟨I,fun _=>False,fun _=>0,fun _=>0,fun _ _=>(0,0)⟩ (qgo ats env) vs) :
  Calls P f vs.toArray w fun en w'=>en=.returned (.bool true)∧Old w w':=by
 have hem:EmbH ⟨I,fun _=>False,fun _=>0,fun _=>0,fun _ _=>(0,0)⟩ [] w:=by
  refine ⟨fun b B h=>by simp at h,fun b b' h=>by obtain ⟨B,h⟩:=h;simp at h,fun b h=>by obtain ⟨B,h⟩:=h;simp at h,hI,fun b=>?_,Rows.nil fun _=>ql7,fun m b i f h=>by simp at h⟩
  exact ⟨fun h=>h.elim,fun ⟨x,hx,_⟩=>by simp at hx⟩
 refine (h.2 ⟨I,fun _=>False,fun _=>0,fun _=>0,fun _ _=>(0,0)⟩ w env p (true,()) vs (fun _ h=>h) hem henv hpre hF hp hargs).mono fun en w' hen=>?_
 obtain ⟨v,Γ',rfl,hx,_,hr⟩:=hen;have hv:v=.bool true:=qcs.1 hr;subst hv;exact ⟨rfl,fun n hn=>hx.fr n hn ql0,hx.size,hx.os,hx.out⟩
theorem qu6 {W W':World} {may:MemPlace→Prop} (h:Old W W'):W.keptBut W' may:=by
 refine ⟨h.os,h.out,fun i hi=>?_⟩
 rw [h.fr i hi]
 cases W.heap[i]? with
 | none=>trivial
 | some o=>cases o with
  | cells c t fr=>exact ⟨rfl,rfl,rfl,fun _ _=>rfl⟩
  | map es clock=>exact .inr ⟨rfl,rfl⟩
  | _=>rfl
section
open Go.WideShapes Go.ChangeShapes
variable {H:Type} {enc:TypeId×Value→H} {P:Program}
theorem post_of_old {f:Func} {s:ChangeSpec} {apart fresh handsOn again:Bool} {W W':World} {args:Array Value} {v:Value} {ds gs:List (DataW H)} {before pa pv:List MemPlace}
  (hW:DataW.Whole enc P f.params.toList s.vars apart W args.toList ds gs before)
  (hres:∀ (b:Nat) (sp:Nat→Bool) (hd:Bool),DataW.TrodAll enc P W' b sp hd f.resultTypes.toList (v.resultList f.resultTypes.size) (s.fn H (ds++gs)).results [])
  (hargs:∀ sp:Nat→Bool,(∀ p∈before,sp p.block=true)→DataW.TrodAll enc P W' 0 sp true f.params.toList args.toList (s.fn H (ds++gs)).args pa)
  (hvars:∀ sp:Nat→Bool,(∀ p∈before,sp p.block=true)→DataW.TrodVars enc P W' sp s.vars (s.fn H (ds++gs)).vars pv)
  (hps:before=pa++pv) (ho:Old W W')
  (hok:∀ (j:Nat) (t:TypeId) (r:Value),f.resultTypes[j]?=some t→(v.resultList f.resultTypes.size)[j]?=some r→Value.okWide P W' .any 0 t r) :
  s.post enc P f apart fresh handsOn again W args v W':=by
 have hold:∀ p∈before,(fun b=>decide (b<W.heap.size)) p.block=true:=fun p hp=>by simpa using hW.lt p hp
 refine ⟨ds,gs,before,[],pa,pv,hW,hres _ _ _,hargs _ hold,hvars _ hold,World.keptBut_mono (fun p hp=>⟨hp,?_⟩) (qu6 (may:=(·∈before)) ho),fun _=>?_⟩
 ·rw [hps,List.mem_append] at hp;exact Or.inr hp
 ·have hlt:=hW.lt;obtain ⟨_,_,_,_,_,hz,hn⟩:=hW;refine ⟨hok,_,_,([]++pa)++pv,⟨[]++pa,pv,trodAll_append (hargs _ (fun _ _=>rfl)) (hres _ _ _),hvars _ (fun _ _=>rfl),rfl,?_,?_⟩,?_⟩
  ·intro b off hp;have hp':MemPlace.cell b off∈before:=by rw [hps];simpa using hp
   have h2:(MemPlace.cell b off).block<W.heap.size:=hlt _ hp';have h3:=hz b off hp';unfold World.frozen? at h3 ⊢;have h4:W'.heap[b]?=W.heap[b]?:=ho.fr b h2;simp only [h4];exact h3
  ·intro ha;have:=hn ha;rw [hps] at this;simpa using this
  ·intro p hp _;rw [hps];simpa using hp
end
set_option linter.unusedSimpArgs false
def argTy (P:Program):Nat→TypeId→Option Ty
 | 0,_=>none
 | n+1,t=>match P.underlying t with
  | some (.int k)=>some (.int k)
  | some .bool=>some .bool
  | some (.slice e)=>match argTy P n e with
   | some te=>if P.cellsOf e=sz te∧0<sz te then some (.slice te) else none
   | none=>none
  | some (.array l e)=>match argTy P n e with
   | some te=>if P.cellsOf e=sz te∧P.cellsOf t=l*sz te∧0<l then some (arrT l te) else none
   | none=>none
  | some (.struct fs)=>match fs.toList with
   | [f0,f1]=>match argTy P n f0.type,argTy P n f1.type with
    | some t0,some t1=>if P.cellsOf f0.type=sz t0∧P.cellsOf f1.type=sz t1∧P.cellsOf t=sz t0+sz t1∧f0.offset=0∧f1.offset=sz t0 then some (.prod t0 (.prod t1 .unit)) else none
    | _,_=>none
   | _=>none
  | _=>none
def okD:(ty:Ty)→Den ty→Prop
 | .int k,n=>(Lit.int k n).wf=true
 | .prod a b,x=>okD a x.1∧okD b x.2
 | .slice e,xs=>List.length (α:=Den e) xs≤maxLen∧∀ (i:Nat) (x:Den e),nth (α:=Den e) xs i=some x→okD e x
 | _,_=>True
section
variable {H:Type} {enc:TypeId×Value→H} {P:Program} {W:World} {sp:Nat→Bool} {held:Bool}
theorem qne {α:Type} {Q:Nat→α→Prop}:∀ (n:Nat),(∀ i,i<n→∃ d,Q i d)→∃ xs:List α,xs.length=n∧∀ (i:Nat) (x:α),xs[i]?=some x→Q i x
 | 0,_=>⟨[],rfl,fun i x h=>by simp at h⟩
 | n+1,h=>by
  obtain ⟨xs,h1,h2⟩:=qne n fun i hi=>h i (by omega)
  obtain ⟨d,hd⟩:=h n (by omega)
  refine ⟨xs++[d],by simp [h1],fun i x hx=>?_⟩
  rcases Nat.lt_or_ge i n with hi | hi
  ·rw [waf (by omega)] at hx;exact h2 i x hx
  ·rw [wag (by omega),h1] at hx
   have:i=n:=by
    rcases Nat.eq_or_lt_of_le hi with h' | h'
    ·exact h'.symm
    ·rw [wac (by simp;omega)] at hx;cases hx
   subst this;simp at hx;subst hx;exact hd
theorem qts {a:Addr} {n:Nat} {cs:List Value} (h:W.cells? 0 a n=some cs):cs.length=n∧∀ (j:Nat) (v:Value),cs[j]?=some v→W.cell? (a.add j)=some v:=by
 unfold World.cells? at h;rw [if_pos (Nat.zero_le _)] at h;have hl:cs.length=n:=by simpa using mapM_some_length h
 refine ⟨hl,fun j v hj=>?_⟩
 have hlt:j<n:=by rw [← hl];exact qb6 hj
 have:=mapM_some_get h j j (by simp [hlt])
 rw [this];exact hj
theorem qya {a:Addr} {v:Value} (h:W.cell? a=some v):a.spot=none:=by
 unfold World.cell? at h
 cases hs:a.spot with
 | none=>rfl
 | some s=>simp [hs] at h;split at h<;>cases h
theorem q60 {te:Ty}:∀ (n:Nat) (cs:List Value),cs.length=n*sz te→(∀ i,i<n→∃ d:Den te,RepC W (fun b=>b<W.heap.size) te d ((cs.drop (i*sz te)).take (sz te))∧okD te d) →
  ∃ D:Den (arrT n te),RepC W (fun b=>b<W.heap.size) (arrT n te) D cs∧okD (arrT n te) D
 | 0,cs,hl,_=>by
  have:cs=[]:=wbf (by simpa using hl)
  subst this;exact ⟨(),by simp only [arrT,RepC],trivial⟩
 | n+1,cs,hl,h=>by
  rw [Nat.succ_mul] at hl;obtain ⟨d,h1,h2⟩:=h 0 (by omega)
  obtain ⟨D,h3,h4⟩:=q60 (te:=te) n (cs.drop (sz te)) (by rw [wav];omega) fun i hi=>by
   have:=h (i+1) (by omega)
   rw [Nat.succ_mul,Nat.add_comm] at this;rw [wbk];exact this
  rw [Nat.zero_mul,List.drop_zero] at h1;exact ⟨(d,D),by simp only [arrT,RepC];exact ⟨_,_,(List.take_append_drop _ _).symm,h1,h3⟩,h2,h4⟩
theorem qs2:∀ (n:Nat) {t:TypeId} {ty:Ty},argTy P n t=some ty→∀ {fuel:Nat} {cs:List Value} {x:DataW H×List MemPlace},DataW.trod enc P W 0 sp held fuel t cs=some x →
  ∃ d:Den ty,RepC W (fun b=>b<W.heap.size) ty d cs∧okD ty d
 | 0,t,ty,ht,_,_,_,_=>by simp [argTy] at ht
 | n+1,t,ty,ht,fuel,cs,x,h=>by
  simp only [argTy] at ht;split at ht
  ·rename_i k hu;cases ht;obtain ⟨m,rfl,_,hw⟩:=DataW.trod_int hu h;exact ⟨m,by simp only [RepC],hw⟩
  ·rename_i hu;cases ht;obtain ⟨b,rfl,_⟩:=DataW.trod_bool hu h;exact ⟨b,by simp only [RepC],trivial⟩
  ·rename_i e hu;split at ht
   ·rename_i te he;split at ht
    ·rename_i hsz;cases ht;obtain ⟨hc,hpos⟩:=hsz
     rcases DataW.trod_slice hu h with ⟨rfl,_⟩ | ⟨a,len,cap,elems,rest,m,rfl,rfl,_,_,hle,hmax,hel,hget,_,_⟩
     ·refine ⟨([]:List (Den te)),?_,Nat.zero_le _,fun i x hx=>by simp [nth] at hx⟩
      simp only [RepC];exact ⟨none,0,rfl,wad _,fun _=>rfl,fun i x hx=>by simp [nth] at hx⟩
     ·have hQ:∀ i,i<len→∃ d:Den te,okD te d∧∃ ci,W.cells? 0 (a.add (i*sz te)) (sz te)=some ci∧RepC W (fun b=>b<W.heap.size) te d ci:=fun i hi=>by
       have h1:=hget i hi;have h2:elems[i]?=some elems[i]:=wab (by omega)
       rw [h2,hc,Option.bind_eq_some_iff] at h1;obtain ⟨ci,h3,h4⟩:=h1;obtain ⟨d,h5,h6⟩:=qs2 n he h4;exact ⟨d,h6,ci,h3,h5⟩
      obtain ⟨xs,hxl,hxs⟩:=qne len hQ;refine ⟨xs,?_,by show xs.length≤maxLen;omega,fun i x hx=>(hxs i x hx).1⟩
      simp only [RepC];refine ⟨some a,cap,by rw [hxl],by rw [hxl];exact hle,fun hn=>(nomatch hn),fun i x hx=>?_⟩
      obtain ⟨_,ci,h3,h5⟩:=hxs i x hx;obtain ⟨h6,h7⟩:=qts h3;have hb:a.block<W.heap.size:=by
       have:=World.cells?_block h3 hpos;unfold Addr.add at this;split at this<;>exact this
      have hi:i<len:=by rw [← hxl];exact qb6 hx
      obtain ⟨_,_,c0,k3,_⟩:=hQ 0 (by omega)
      obtain ⟨k6,k7⟩:=qts k3;have ha:a.spot=none:=by
       have:=k7 0 (c0[0]'(by omega)) (wab (by omega))
       rw [Nat.zero_mul] at this;exact qya (a:=a) this
      obtain ⟨ab,ao,as⟩:=a;simp only at ha hb;subst ha;refine ⟨ab,ao,ci,rfl,hb,h5,fun j v hj=>?_⟩
      have:=h7 j v hj;rw [qbv,qbv] at this;exact this
    ·cases ht
   ·cases ht
  ·rename_i l e hu;split at ht
   ·rename_i te he;split at ht
    ·rename_i hsz;cases ht;obtain ⟨hc,hct,hl0⟩:=hsz
     cases fuel with
     | zero=>simp [DataW.trod] at h
     | succ m =>
      unfold DataW.trod at h;rw [hu] at h;simp only [Option.ite_none_right_eq_some,Option.map_eq_some_iff] at h;obtain ⟨hlen,xs,hm,_⟩:=h;refine q60 l _ (by rw [hlen,hct]) fun i hi=>?_
      have h1:=mapM_some_get hm i i (by simp [hi])
      have hxl:xs.length=l:=by simpa using mapM_some_length hm
      rw [wab (by omega),hc] at h1
      exact qs2 n he h1
    ·cases ht
   ·cases ht
  ·rename_i fs hu;split at ht
   ·rename_i f0 f1 hfs;split at ht
    ·rename_i t0 t1 h0 h1;split at ht
     ·rename_i hsz;cases ht;obtain ⟨c0,c1,ct,o0,o1⟩:=hsz;obtain ⟨xs,m,rfl,rfl,hlen,hxl,hf⟩:=DataW.trod_struct hu h;have h2:fs.size=2:=by rw [← Array.length_toList,hfs];rfl
      have hx0:xs[0]?=some (xs[0]'(by omega)):=wab _
      have hx1:xs[1]?=some (xs[1]'(by omega)):=wab _
      have e0:=(hf 0 f0 (by rw [← Array.getElem?_toList,hfs];rfl)).trans hx0
      have e1:=(hf 1 f1 (by rw [← Array.getElem?_toList,hfs];rfl)).trans hx1
      rw [o0,List.drop_zero,c0] at e0;rw [o1,c1,wak (by rw [wav];omega)] at e1
      obtain ⟨d0,r0,k0⟩:=qs2 n h0 e0;obtain ⟨d1,r1,k1⟩:=qs2 n h1 e1;refine ⟨(d0,d1,()),?_,k0,k1,trivial⟩;simp only [RepC];exact ⟨_,_,(List.take_append_drop _ _).symm,r0,_,[],(wbo _).symm,r1,rfl⟩
     ·cases ht
    ·cases ht
   ·cases ht
  ·cases ht
def ArgT (P:Program) (t:TypeId):Prop:=∃ n ty,argTy P n t=some ty
theorem q55:Kids P (ArgT P):=by
 have one:∀ {t:TypeId},ArgT P t→∃ n ty,argTy P (n+1) t=some ty:=fun ⟨n,ty,h⟩=>by
  cases n with
  | zero=>simp [argTy] at h
  | succ n=>exact ⟨n,ty,h⟩
 refine ⟨fun ht hu=>?_,fun ht hu=>?_,fun ht hu=>?_,fun ht hu=>?_,fun ht hu=>?_⟩
 ·obtain ⟨n,ty,h⟩:=one ht;simp [argTy,hu] at h
 ·obtain ⟨n,ty,h⟩:=one ht;simp only [argTy,hu] at h;split at h
  ·rename_i te he;exact ⟨n,te,he⟩
  ·cases h
 ·obtain ⟨n,ty,h⟩:=one ht;simp only [argTy,hu] at h;split at h
  ·rename_i te he;split at h
   ·rename_i hsz;exact ⟨⟨n,te,he⟩,by rw [hsz.2.1,hsz.1]⟩
   ·cases h
  ·cases h
 ·obtain ⟨n,ty,h⟩:=one ht;simp only [argTy,hu] at h;split at h
  ·rename_i f0 f1 hfs;split at h
   ·rename_i t0 t1 h0 h1;split at h
    ·rename_i hsz;obtain ⟨c0,c1,ct,o0,o1⟩:=hsz;rw [hfs];refine ⟨fun f hf=>?_,?_,fun j f hj=>?_⟩
     ·rcases List.mem_cons.1 hf with rfl | hf
      ·exact ⟨n,_,h0⟩
      ·obtain rfl:=List.mem_singleton.1 hf;exact ⟨n,_,h1⟩
     ·show P.cellsOf _=(P.cellsOf f0.type+(P.cellsOf f1.type+0));omega
     ·match j,hj with
      | 0,hj=>cases hj;exact o0
      | 1,hj=>cases hj;show f1.offset=P.cellsOf f0.type+0;omega
      | j+2,hj=>cases hj
    ·cases h
   ·cases h
  ·cases h
 ·obtain ⟨n,ty,h⟩:=one ht;simp [argTy,hu] at h
theorem zby {t e:TypeId} (ht:ArgT P t) (hu:P.underlying t=some (.slice e)):0<P.cellsOf e:=by
 obtain ⟨n,ty,h⟩:=ht
 cases n with
 | zero=>simp [argTy] at h
 | succ n =>
  simp only [argTy,hu] at h;split at h
  ·split at h
   ·rename_i hsz;rw [hsz.1];exact hsz.2
   ·cases h
  ·cases h
theorem quv {W':World} (h:Old W W') {p:MemPlace} (hp:p.block<W.heap.size):W.sameAt W' p:=by
 cases p with
 | cell b off =>
  show W'.cell? ⟨b,off,none⟩=W.cell? ⟨b,off,none⟩;exact qnv (h.fr b hp)
 | map b=>exact h.fr b hp
theorem q6b {W':World} (ho:Old W W') {t:TypeId} (ht:ArgT P t) {v:Value} {d:DataW H} {ps:List MemPlace} (h:DataW.Trod enc P W 0 (fun _=>true) true t v d ps)
  {sp':Nat→Bool} (hs:∀ p∈ps,sp' p.block=true):DataW.Trod enc P W' 0 sp' true t v d ps:=by
 obtain ⟨n,h⟩:=h;exact ⟨n,DataW.trod_stays q55 zby (fun h=>by cases h) ht h (fun p hp=>quv ho (DataW.trod_lt n t _ _ h p hp)) hs⟩
theorem trodAll_old {W':World} (ho:Old W W'):∀ {ts:List TypeId} {vs:List Value} {ds:List (DataW H)} {ps:List MemPlace},(∀ t∈ts,ArgT P t)→DataW.TrodAll enc P W 0 (fun _=>true) true ts vs ds ps →
  ∀ {sp':Nat→Bool},(∀ p∈ps,sp' p.block=true)→DataW.TrodAll enc P W' 0 sp' true ts vs ds ps
 | [],[],[],ps,_,h,_,_=>h
 | t::ts,v::vs,d::ds,ps,hT,h,sp',hs=>by
  obtain ⟨p,q,h1,h2,rfl⟩:=h;exact ⟨p,q,q6b ho (hT t (way ..)) h1 fun x hx=>hs x (wbg _ hx),trodAll_old ho (fun t ht=>hT t (wam _ ht)) h2 fun x hx=>hs x (wbh _ hx),rfl⟩
 | [],[],_::_,_,_,h,_,_=>h.elim
 | [],_::_,_,_,_,h,_,_=>by cases ‹List (DataW H)›<;>exact h.elim
 | _::_,[],_,_,_,h,_,_=>by cases ‹List (DataW H)›<;>exact h.elim
 | _::_,_::_,[],_,_,h,_,_=>h.elim
theorem qyq {l:Nat} {t:Ty}:isAgg (arrT l t)=true:=by cases l<;>rfl
theorem rep_arg {n:Nat} {t:TypeId} {ty:Ty} (ht:argTy P n t=some ty) {r:Reach} {b0:Nat} {v:Value} (hval:Value.okWide P W r b0 t v) {d:DataW H} {ps:List MemPlace} (hd:DataW.Trod enc P W 0 sp held t v d ps) :
  ∃ x:Den ty,RepV W (fun b=>b<W.heap.size) ty x v∧okD ty x:=by
 obtain ⟨fuel,h⟩:=hd;obtain ⟨x,h1,h2⟩:=qs2 n ht h;refine ⟨x,⟨_,h1,?_⟩,h2⟩
 cases n with
 | zero=>simp [argTy] at ht
 | succ n =>
  simp only [argTy] at ht;have scalar:isAgg ty=false→(∀ cs,v≠.agg cs)→v=mkV ty v.cells.toList:=fun ha hv=>by
   have:v.cells=#[v]:=by cases v<;>first | rfl | exact absurd rfl (hv _)
   simp [mkV,ha,this]
  unfold Value.okWide at hval;split at ht
  ·rename_i k hu;cases ht;refine scalar rfl fun cs e=>?_
   subst e;simp [hu,Cell.okWide,Cell.ok] at hval
  ·rename_i hu;cases ht;refine scalar rfl fun cs e=>?_
   subst e;simp [hu,Cell.okWide,Cell.ok] at hval
  ·rename_i e hu;split at ht
   ·split at ht
    ·cases ht;refine scalar rfl fun cs e=>?_
     subst e;simp [hu,Cell.okWide,Cell.ok] at hval
    ·cases ht
   ·cases ht
  ·rename_i l e hu;split at ht
   ·split at ht
    ·cases ht;simp only [hu] at hval;obtain ⟨cs,rfl,_⟩:=hval;simp [mkV,qyq,Value.cells]
    ·cases ht
   ·cases ht
  ·rename_i fs hu;split at ht
   ·split at ht
    ·split at ht
     ·cases ht;simp only [hu] at hval;obtain ⟨cs,rfl,_⟩:=hval;simp [mkV,isAgg,Value.cells]
     ·cases ht
    ·cases ht
   ·cases ht
  ·cases ht
end
end Go.Ab
