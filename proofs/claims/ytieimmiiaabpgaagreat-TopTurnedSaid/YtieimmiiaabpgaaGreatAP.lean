/- Abstract values and how they stand in memory: typed pure data. -/
import Derived.WalkKit
namespace Go
abbrev waa:=@List.getD_eq_getElem?_getD
abbrev wab:=@List.getElem?_eq_getElem
abbrev wac:=@List.getElem?_eq_none
abbrev wad:=@Nat.le_refl
abbrev wae:=@List.length_append
abbrev waf:=@List.getElem?_append_left
abbrev wag:=@List.getElem?_append_right
abbrev wah:=@List.getElem?_set_ne
abbrev wai:=@Nat.eq_of_beq_eq_true
abbrev waj:=@List.length_set
abbrev wak:=@List.take_of_length_le
abbrev wbj:=@List.all_eq_true
abbrev wam:=@List.mem_cons_of_mem
abbrev wan:=@List.length_take
abbrev wao:=@List.getElem?_map
abbrev wap:=@List.getElem_mem
abbrev waq:=@List.length_replicate
abbrev war:=@List.append_assoc
abbrev wat:=@List.getElem?_take
abbrev wbl:=@List.getElem?_drop
abbrev wav:=@List.length_drop
abbrev waw:=@List.getElem?_set
abbrev wax:=@List.getElem?_replicate
abbrev way:=@List.mem_cons_self
abbrev waz:=@Option.some.injEq
abbrev wa0:=@List.cons.injEq
abbrev wa1:=@Prod.mk.injEq
abbrev wa2:=@Bool.false_eq_true
abbrev wa3:=@Bool.and_eq_true
abbrev wa4:=@List.getElem?_cons_succ
abbrev wa5:=@List.length_cons
abbrev wa6:=@List.getElem?_cons_zero
abbrev wa7:=@Nat.zero_add
abbrev wa8:=@List.length_singleton
abbrev wa9:=@List.length_nil
abbrev wba:=@decide_eq_true_eq
abbrev wbb:=@cond_true
abbrev wbc:=@List.cons_append
abbrev wbd:=@List.map_cons
abbrev wbe:=@Bool.or_eq_true
abbrev wbf:=@List.eq_nil_of_length_eq_zero
abbrev wbg:=@List.mem_append_left
abbrev wbh:=@List.mem_append_right
abbrev wbi:=@List.mem_of_getElem?
abbrev wbk:=@List.drop_drop
abbrev wbm:=@List.flatMap_cons
abbrev wbn:=@List.foldl_cons
abbrev wbo:=@List.append_nil
abbrev wbp:=@Result.andThen_ok
end Go
namespace Go.Ab
inductive Ty where
 | int (k:IntKind)
 | bool
 | unit
 | prod (a b:Ty)
 | slice (e:Ty)
 | ptr (e:Ty)
 | optr (e:Ty)
 | map (k v:Ty)
 | oth
 deriving DecidableEq
def Den:Ty→Type
 | .int _=>Int
 | .bool=>Bool
 | .unit=>Unit
 | .prod a b=>Den a×Den b
 | .slice e=>List (Den e)
 | .ptr e=>Den e
 | .optr e=>Option (Den e)
 | .map k v=>List (Den k×Den v)
 | .oth=>Unit
def dflt:(t:Ty)→Den t
 | .int _=>(0:Int)
 | .bool=>false
 | .unit=>()
 | .prod a b=>(dflt a,dflt b)
 | .slice _=>[]
 | .ptr e=>dflt e
 | .optr _=>none
 | .map _ _=>[]
 | .oth=>()
def sz:Ty→Nat
 | .unit=>0
 | .prod a b=>sz a+sz b
 | _=>1
def isAgg:Ty→Bool
 | .unit=>true
 | .prod _ _=>true
 | _=>false
def mkV (t:Ty) (cs:List Value):Value:=if isAgg t then .agg cs.toArray else cs.headD undef
@[reducible] def nth {α:Type} (xs:List α) (i:Nat):Option α:=xs[i]?
def qa1 (w:World) (b off:Nat) (cs:List Value):Prop:=∀ (j:Nat) (v:Value),cs[j]?=some v→w.cell? ⟨b,off+j,none⟩=some v
def RepC (w:World) (I:Nat→Prop):(t:Ty)→Den t→List Value→Prop
 | .int k,n,cs=>cs=[.int k n]
 | .bool,b,cs=>cs=[.bool b]
 | .unit,_,cs=>cs=[]
 | .prod a b,x,cs=>∃ c1 c2,cs=c1++c2∧RepC w I a x.1 c1∧RepC w I b x.2 c2
 | .slice e,xs,cs=>∃ (ad:Option Addr) (cap:Nat),cs=[.slice ad (List.length (α:=Den e) xs) cap]∧(List.length (α:=Den e) xs)≤cap∧(ad=none→cap=0) ∧
   ∀ (i:Nat) (x:Den e),nth (α:=Den e) xs i=some x→∃ b off c,ad=some ⟨b,off,none⟩∧I b∧RepC w I e x c∧qa1 w b (off+i*sz e) c
 | .ptr e,x,cs=>∃ b off c,cs=[.pointer (some ⟨b,off,none⟩)]∧I b∧RepC w I e x c∧qa1 w b off c
 | .optr e,o,cs=>(o=none∧cs=[.pointer none])∨∃ x,o=some x∧∃ b off c,cs=[.pointer (some ⟨b,off,none⟩)]∧I b∧RepC w I e x c∧qa1 w b off c
 | .map k v,es,cs=>∃ r ents clock,cs=[.map (some r)]∧I r∧w.heap[r]?=some (.map ents clock)∧ents.size=List.length (α:=Den k×Den v) es ∧
   ∀ (i:Nat) (e:Den k×Den v),nth (α:=Den k×Den v) es i=some e→∃ ent ck cv,ents[i]?=some ent∧RepC w I k e.1 ck∧ent.key=mkV k ck∧RepC w I v e.2 cv∧ent.val=mkV v cv
 | .oth,_,_=>False
def RepV (w:World) (I:Nat→Prop) (t:Ty) (x:Den t) (v:Value):Prop:=∃ cs,RepC w I t x cs∧v=mkV t cs
theorem RepC.length {w:World} {I:Nat→Prop}:∀ (t:Ty) (x:Den t) (cs:List Value),RepC w I t x cs→cs.length=sz t
 | .int _,_,_,h=>by simp only [RepC] at h;subst h;rfl
 | .bool,_,_,h=>by simp only [RepC] at h;subst h;rfl
 | .unit,_,_,h=>by simp only [RepC] at h;subst h;rfl
 | .prod a b,x,cs,h=>by
  simp only [RepC] at h;obtain ⟨c1,c2,rfl,h1,h2⟩:=h;simp [sz,RepC.length a _ _ h1,RepC.length b _ _ h2]
 | .slice e,_,_,h=>by simp only [RepC] at h;obtain ⟨ad,cap,rfl,_⟩:=h;rfl
 | .ptr e,_,_,h=>by simp only [RepC] at h;obtain ⟨b,off,c,rfl,_⟩:=h;rfl
 | .optr e,_,_,h=>by
  simp only [RepC] at h
  rcases h with ⟨_,rfl⟩ | ⟨_,_,_,_,_,rfl,_⟩<;>rfl
 | .map k v,_,_,h=>by simp only [RepC] at h;obtain ⟨r,ents,cl,rfl,_⟩:=h;rfl
 | .oth,_,_,h=>by simp only [RepC] at h
theorem RepC.oneCell {w:World} {I:Nat→Prop}:∀ (t:Ty) (x:Den t) (cs:List Value),RepC w I t x cs→∀ v∈cs,v.oneCell'=true
 | .int _,_,_,h=>by simp only [RepC] at h;subst h;simp [Value.oneCell']
 | .bool,_,_,h=>by simp only [RepC] at h;subst h;simp [Value.oneCell']
 | .unit,_,_,h=>by simp only [RepC] at h;subst h;simp
 | .prod a b,x,cs,h=>by
  simp only [RepC] at h;obtain ⟨c1,c2,rfl,h1,h2⟩:=h;intro v hv
  rcases List.mem_append.1 hv with hv | hv
  ·exact RepC.oneCell a _ _ h1 v hv
  ·exact RepC.oneCell b _ _ h2 v hv
 | .slice e,_,_,h=>by simp only [RepC] at h;obtain ⟨ad,cap,rfl,_⟩:=h;simp [Value.oneCell']
 | .ptr e,_,_,h=>by simp only [RepC] at h;obtain ⟨b,off,c,rfl,_⟩:=h;simp [Value.oneCell']
 | .optr e,_,_,h=>by
  simp only [RepC] at h
  rcases h with ⟨_,rfl⟩ | ⟨_,_,_,_,_,rfl,_⟩<;>simp [Value.oneCell']
 | .map k v,_,_,h=>by simp only [RepC] at h;obtain ⟨r,ents,cl,rfl,_⟩:=h;simp [Value.oneCell']
 | .oth,_,_,h=>by simp only [RepC] at h
theorem qnv {w w':World} {b off:Nat} (h:w'.heap[b]?=w.heap[b]?):w'.cell? ⟨b,off,none⟩=w.cell? ⟨b,off,none⟩:=by
 simp only [World.cell?,h]
theorem qa1.congr {w w':World} {b off:Nat} {cs:List Value} (h:w'.heap[b]?=w.heap[b]?) (hc:qa1 w b off cs):qa1 w' b off cs :=
 fun j v hj=>(qnv h).trans (hc j v hj)
theorem RepC.mono {w w':World} {I I':Nat→Prop} (hI:∀ b,I b→I' b) (hw:∀ b,I b→w'.heap[b]?=w.heap[b]?) :
  ∀ (t:Ty) (x:Den t) (cs:List Value),RepC w I t x cs→RepC w' I' t x cs
 | .int _,_,_,h=>by simpa only [RepC] using h
 | .bool,_,_,h=>by simpa only [RepC] using h
 | .unit,_,_,h=>by simpa only [RepC] using h
 | .prod a b,x,cs,h=>by
  simp only [RepC] at h ⊢;obtain ⟨c1,c2,e,h1,h2⟩:=h;exact ⟨c1,c2,e,RepC.mono hI hw a _ _ h1,RepC.mono hI hw b _ _ h2⟩
 | .slice e,xs,cs,h=>by
  simp only [RepC] at h ⊢;obtain ⟨ad,cap,e1,e2,e3,h1⟩:=h;refine ⟨ad,cap,e1,e2,e3,fun i x hx=>?_⟩
  obtain ⟨b,off,c,g1,g2,g3,g4⟩:=h1 i x hx;exact ⟨b,off,c,g1,hI b g2,RepC.mono hI hw e _ _ g3,g4.congr (hw b g2)⟩
 | .ptr e,x,cs,h=>by
  simp only [RepC] at h ⊢;obtain ⟨b,off,c,g1,g2,g3,g4⟩:=h;exact ⟨b,off,c,g1,hI b g2,RepC.mono hI hw e _ _ g3,g4.congr (hw b g2)⟩
 | .optr e,x,cs,h=>by
  simp only [RepC] at h ⊢
  rcases h with h | ⟨x,hx,b,off,c,g1,g2,g3,g4⟩
  ·exact .inl h
  ·exact .inr ⟨x,hx,b,off,c,g1,hI b g2,RepC.mono hI hw e _ _ g3,g4.congr (hw b g2)⟩
 | .map k v,es,cs,h=>by
  simp only [RepC] at h ⊢;obtain ⟨r,ents,cl,e1,e2,e3,e4,h1⟩:=h;refine ⟨r,ents,cl,e1,hI r e2,(hw r e2).trans e3,e4,fun i e he=>?_⟩
  obtain ⟨ent,ck,cv,g1,g2,g3,g4,g5⟩:=h1 i e he;exact ⟨ent,ck,cv,g1,RepC.mono hI hw k _ _ g2,g3,RepC.mono hI hw v _ _ g4,g5⟩
 | .oth,_,_,h=>by simp only [RepC] at h
theorem RepV.mono {w w':World} {I I':Nat→Prop} (hI:∀ b,I b→I' b) (hw:∀ b,I b→w'.heap[b]?=w.heap[b]?) {t:Ty} {x:Den t} {v:Value}
  (h:RepV w I t x v):RepV w' I' t x v:=by
 obtain ⟨cs,h1,h2⟩:=h;exact ⟨cs,RepC.mono hI hw t _ _ h1,h2⟩
inductive AV where
 | undef
 | val (t:Ty) (x:Den t)
 | gd (b:Bool) (v:AV)
 | opt (b:Bool) (v:AV)
 | anyb (pos:Bool) (P:Prop)
 | ref (b s i o:Nat)
 | sl (b s i len:Nat) (c:Option Nat)
 | vsl (t:Ty) (xs:List (Den t)) (c:Nat)
 | mref (b:Nat)
 | fn (f:FuncId) (caps:AV)
 | tup (l:AV)
 | agg (l:AV)
 | nil
 | cons (a l:AV)
structure Cx where
 I:Nat→Prop
 A:Nat→Prop
 ν:Nat→Nat
 κ:Nat→Nat
 R:Nat→Nat→Nat×Nat
def Cx.O (Γ:Cx) (b n:Nat):Prop:=∃ i,(Γ.R b i).2≠0∧(Γ.R b i).1=n
def fnV (f:FuncId) (us:List Value):Value:=match Nat.ble 4096 f with
 | true=>.func (.func (f % 4096)) us.toArray #[]
 | false=>.func (.func f) #[] us.toArray
def fnF (f:FuncId):FuncId:=match Nat.ble 4096 f with
 | true=>f % 4096
 | false=>f
def Rp (w:World) (Γ:Cx):AV→List Value→Prop
 | .undef,vs=>∃ v,vs=[v]
 | .val t x,vs=>∃ v,vs=[v]∧RepV w Γ.I t x v
 | .gd b a,vs=>(∃ v,vs=[v])∧(b=true→Rp w Γ a vs)∧(b=false→vs=[Go.undef])
 | .opt b a,vs=>(∃ v,vs=[v])∧(b=true→vs=[.slice none 0 0])∧(b=false→Rp w Γ a vs∧∃ ad n c,vs=[.slice (some ad) n c])
 | .anyb pos P,vs=>∃ b:Bool,vs=[.bool b]∧(b=pos→P)
 | .ref b s i o,vs=>Γ.A b∧vs=[.pointer (some ⟨Γ.ν b,i*s+o,none⟩)]
 | .sl b s i len c,vs=>Γ.A b∧∃ ad cap,vs=[.slice ad len cap]∧cap=c.getD (Γ.κ b-i)∧(cap≠0→ad=some ⟨Γ.ν b,i*s,none⟩)∧len≤cap
 | .vsl t xs c,vs=>∃ ad,vs=[.slice ad xs.length c]∧xs.length≤c∧(ad=none→c=0) ∧
   ∀ (i:Nat) (x:Den t),xs[i]?=some x→∃ b off cs,ad=some ⟨b,off,none⟩∧Γ.I b∧RepC w Γ.I t x cs∧qa1 w b (off+i*sz t) cs
 | .mref b,vs=>Γ.A b∧vs=[.map (some (Γ.ν b))]
 | .fn f caps,vs=>∃ us,vs=[fnV f us]∧Rp w Γ caps us
 | .tup l,vs=>∃ us,vs=[.tuple us.toArray]∧Rp w Γ l us
 | .agg l,vs=>∃ us:List Value,vs=[.agg us.toArray]∧Rp w Γ l us∧∀ u∈us,u.oneCell'=true
 | .nil,vs=>vs=[]
 | .cons a l,vs=>∃ v us,vs=v::us∧Rp w Γ a [v]∧Rp w Γ l us
def Ra (w:World) (Γ:Cx) (a:AV) (v:Value):Prop:=Rp w Γ a [v]
inductive Blk where
 | arr (t:Ty) (xs:List (Den t)) (opn:Bool)
 | cells (vs:List AV)
 | map (k v:Ty) (es:List (Den k×Den v))
 | pmap (k v:Ty) (es:List (Den k×Den v))
 | nest (t:Ty) (rows:List (List (Den t))) (ho:Option (Nat×Nat))
 | mix (pre:List AV) (t:Ty) (xs:List (Den t))
def mixL (pre:List AV) (t:Ty) (xs:List (Den t)):List AV:=pre++xs.map (AV.val t)
def qfh (w:World) (I:Nat→Prop) (p:Nat×Nat) (t:Ty) (r:List (Den t)):Prop :=
 r.length≤p.2∧(p.2≠0→∃ c el,w.heap[p.1]?=some (.cells c el (0,0))∧c.size=p.2*sz t ∧
   ∀ (i:Nat) (x:Den t),r[i]?=some x→∃ cs,RepC w I t x cs∧∀ (j:Nat) (u:Value),cs[j]?=some u→c[i*sz t+j]?=some u)
def qge (p:Nat×Nat) (L:Nat) (v:Value):Prop :=
 ∃ ad,v=.slice ad L p.2∧(ad=none→p.2=0)∧(p.2≠0→ad=some ⟨p.1,0,none⟩)
inductive Hs where
 | free
 | dead
 | live (B:Blk)
 | view (b i:Nat) (f:Bool)
def RepB (w:World) (Γ:Cx) (b:Nat):Blk→Prop
 | .arr t xs opn=>xs.length≤Γ.κ b∧(opn=false→xs.length=Γ.κ b)∧(Γ.κ b≠0→∃ c el,w.heap[Γ.ν b]?=some (.cells c el (0,0))∧c.size=Γ.κ b*sz t ∧
   ∀ (i:Nat) (x:Den t),xs[i]?=some x→∃ cs,RepC w Γ.I t x cs∧∀ (j:Nat) (v:Value),cs[j]?=some v→c[i*sz t+j]?=some v)
 | .cells vs=>Γ.κ b≠0∧∃ c el,w.heap[Γ.ν b]?=some (.cells c el (0,0))∧c.size=vs.length∧∀ (i:Nat) (a:AV),vs[i]?=some a→∃ v,c[i]?=some v∧v.oneCell'=true∧Ra w Γ a v
 | .map k v es=>Γ.κ b≠0∧∃ ents clock,w.heap[Γ.ν b]?=some (.map ents clock)∧ents.size=es.length ∧
   ∀ (i:Nat) (e:Den k×Den v),es[i]?=some e→∃ ent ck cv,ents[i]?=some ent∧RepC w Γ.I k e.1 ck∧ent.key=mkV k ck∧RepC w Γ.I v e.2 cv∧ent.val=mkV v cv
 | .pmap k v es0=>∃ es:List (Den k×Den v),es.Perm es0∧es0.Pairwise (fun x y=>x.1≠y.1)∧Γ.κ b≠0∧∃ ents clock,w.heap[Γ.ν b]?=some (.map ents clock)∧ents.size=es.length ∧
   ∀ (i:Nat) (e:Den k×Den v),es[i]?=some e→∃ ent ck cv,ents[i]?=some ent∧RepC w Γ.I k e.1 ck∧ent.key=mkV k ck∧RepC w Γ.I v e.2 cv∧ent.val=mkV v cv
 | .nest t rows ho=>rows.length≤Γ.κ b∧(Γ.κ b≠0→∃ c el,w.heap[Γ.ν b]?=some (.cells c el (0,0))∧c.size=Γ.κ b ∧
   ∀ (i:Nat) (r:List (Den t)),rows[i]?=some r→qfh w Γ.I (Γ.R b i) t r∧((∀ m,ho≠some (i,m))→∃ v,c[i]?=some v∧qge (Γ.R b i) r.length v))
 | .mix pre t xs=>isAgg t=false∧Γ.κ b≠0∧∃ c el,w.heap[Γ.ν b]?=some (.cells c el (0,0))∧c.size=(mixL pre t xs).length∧∀ (i:Nat) (a:AV),(mixL pre t xs)[i]?=some a→∃ v,c[i]?=some v∧v.oneCell'=true∧Ra w Γ a v
theorem qd0 {w:World} {Γ:Cx} {b:Nat} {pre:List AV} {t:Ty} {xs:List (Den t)}:RepB w Γ b (.mix pre t xs)↔isAgg t=false∧RepB w Γ b (.cells (mixL pre t xs)):=by
 simp only [RepB]
def Live (H:List Hs) (b:Nat):Prop:=∃ B,H[b]?=some (.live B)
def Nest (H:List Hs) (b:Nat):Prop:=∃ t rows ho,H[b]?=some (.live (.nest t rows ho))
theorem Nest.live {H:List Hs} {b:Nat} (h:Nest H b):Live H b:=by obtain ⟨t,r,o,h⟩:=h;exact ⟨_,h⟩
def Wr (Γ:Cx) (H:List Hs) (n:Nat):Prop:=(∃ b,Live H b∧Γ.κ b≠0∧Γ.ν b=n)∨∃ b,Nest H b∧Γ.O b n
structure Rows (Γ:Cx) (H:List Hs) (w:World):Prop where
 dis:∀ b b' n,Nest H b→Nest H b'→Γ.O b n→Γ.O b' n→b=b'
 main:∀ b b' n,Nest H b→Live H b'→Γ.κ b'≠0→Γ.O b n→Γ.ν b'≠n
 imm:∀ b n,Nest H b→Γ.O b n→¬ Γ.I n
 lt:∀ b n,Nest H b→Γ.O b n→n<w.heap.size
 one:∀ b i i',Nest H b→(Γ.R b i).2≠0→(Γ.R b i').2≠0→(Γ.R b i).1=(Γ.R b i').1→i=i'
def VwOk (Γ:Cx) (H:List Hs) (m b i:Nat):Prop:=∀ t rows ho,H[b]?=some (.live (.nest t rows ho))→i<rows.length→Γ.κ m=(Γ.R b i).2∧(Γ.κ m≠0→Γ.ν m=(Γ.R b i).1)
structure EmbH (Γ:Cx) (H:List Hs) (w:World):Prop where
 blk:∀ b B,H[b]?=some (.live B)→RepB w Γ b B
 inj:∀ b b',Live H b→Live H b'→Γ.κ b≠0→Γ.κ b'≠0→Γ.ν b=Γ.ν b'→b=b'
 imm:∀ b,Live H b→Γ.κ b≠0→¬ Γ.I (Γ.ν b)
 old:∀ n,Γ.I n→n<w.heap.size
 al:∀ b,Γ.A b↔∃ h,H[b]?=some h∧h≠.free
 rows:Rows Γ H w
 vw:∀ m b i f,H[m]?=some (.view b i f)→Γ.A b∧VwOk Γ H m b i
theorem EmbH.alive {Γ:Cx} {H:List Hs} {w:World} (h:EmbH Γ H w) {b:Nat} (hb:Live H b):Γ.A b:=by
 obtain ⟨B,hB⟩:=hb;exact (h.al b).2 ⟨_,hB,by simp⟩
theorem RepB.lt {w:World} {Γ:Cx} {b:Nat} {B:Blk} (h:RepB w Γ b B) (hk:Γ.κ b≠0):Γ.ν b<w.heap.size:=by
 have:∃ o,w.heap[Γ.ν b]?=some o:=by
  cases B<;>simp only [RepB] at h
  ·obtain ⟨_,_,h⟩:=h;obtain ⟨c,el,h,_⟩:=h hk;exact ⟨_,h⟩
  ·obtain ⟨_,c,el,h,_⟩:=h;exact ⟨_,h⟩
  ·obtain ⟨_,c,el,h,_⟩:=h;exact ⟨_,h⟩
  ·obtain ⟨_,_,_,_,c,el,h,_⟩:=h;exact ⟨_,h⟩
  ·obtain ⟨_,h⟩:=h;obtain ⟨c,el,h,_⟩:=h hk;exact ⟨_,h⟩
  ·obtain ⟨_,_,c,el,h,_⟩:=h;exact ⟨_,h⟩
 obtain ⟨o,ho⟩:=this
 rcases Nat.lt_or_ge (Γ.ν b) w.heap.size with h | h
 ·exact h
 ·rw [Array.getElem?_eq_none h] at ho;cases ho
theorem EmbH.lt {Γ:Cx} {H:List Hs} {w:World} (h:EmbH Γ H w) {b:Nat} (hb:Live H b) (hk:Γ.κ b≠0):Γ.ν b<w.heap.size:=by
 obtain ⟨B,hB⟩:=hb;exact (h.blk b B hB).lt hk
structure Ext (Γ:Cx) (H:List Hs) (w:World) (Γ':Cx) (H':List Hs) (w':World):Prop where
 fr:∀ n,n<w.heap.size→¬ Wr Γ H n→w'.heap[n]?=w.heap[n]?
 size:w.heap.size≤w'.heap.size
 os:w'.os=w.os
 out:w'.output=w.output
 wr:∀ n,Wr Γ' H' n→Wr Γ H n∨w.heap.size≤n
 im:∀ n,Γ'.I n→Γ.I n∨Wr Γ H n∨w.heap.size≤n
 mi:∀ n,Γ.I n→Γ'.I n
 al:∀ b,Γ.A b→Γ'.A b∧Γ'.ν b=Γ.ν b∧Γ'.κ b=Γ.κ b
theorem Ext.refl (Γ:Cx) (H:List Hs) (w:World):Ext Γ H w Γ H w where
 fr:=fun _ _ _=>rfl
 size:=wad _
 os:=rfl
 out:=rfl
 wr:=fun _ h=>.inl h
 im:=fun _ h=>.inl h
 mi:=fun _ h=>h
 al:=fun _ h=>⟨h,rfl,rfl⟩
theorem Ext.trans {Γ Γ' Γ'':Cx} {H H' H'':List Hs} {w w' w'':World} (h:Ext Γ H w Γ' H' w') (h':Ext Γ' H' w' Γ'' H'' w''):Ext Γ H w Γ'' H'' w'' where
 fr:=fun n hn hw=>by
  have h2:¬ Wr Γ' H' n:=fun hc=>by
   rcases h.wr n hc with h1 | h1
   ·exact hw h1
   ·omega
  rw [h'.fr n (Nat.lt_of_lt_of_le hn h.size) h2,h.fr n hn hw]
 size:=Nat.le_trans h.size h'.size
 os:=h'.os.trans h.os
 out:=h'.out.trans h.out
 wr:=fun n hn=>by
  rcases h'.wr n hn with h1 | h1
  ·exact h.wr n h1
  ·exact .inr (Nat.le_trans h.size h1)
 im:=fun n hn=>by
  rcases h'.im n hn with h1 | h1 | h1
  ·exact h.im n h1
  ·rcases h.wr n h1 with h2 | h2
   ·exact .inr (.inl h2)
   ·exact .inr (.inr h2)
  ·exact .inr (.inr (Nat.le_trans h.size h1))
 mi:=fun n hn=>h'.mi n (h.mi n hn)
 al:=fun b hb=>by
  obtain ⟨h1,h2,h3⟩:=h.al b hb;obtain ⟨g1,g2,g3⟩:=h'.al b h1;exact ⟨g1,g2.trans h2,g3.trans h3⟩
theorem EmbH.keepI {Γ Γ':Cx} {H H':List Hs} {w w':World} (e:EmbH Γ H w) (h:Ext Γ H w Γ' H' w'):∀ b,Γ.I b→w'.heap[b]?=w.heap[b]? :=
 fun b hb=>h.fr b (e.old b hb) fun hw=>by
  rcases hw with ⟨_,hc,hk,hn⟩ | ⟨c,hc,hn⟩
  ·exact e.imm _ hc hk (hn▸hb)
  ·exact e.rows.imm c b hc hn hb
theorem Rp.mono {w w':World} {Γ Γ':Cx} (hI:∀ b,Γ.I b→Γ'.I b) (hw:∀ b,Γ.I b→w'.heap[b]?=w.heap[b]?)
  (hA:∀ b,Γ.A b→Γ'.A b∧Γ'.ν b=Γ.ν b∧Γ'.κ b=Γ.κ b):∀ (a:AV) (vs:List Value),Rp w Γ a vs→Rp w' Γ' a vs
 | .undef,vs,h=>by simpa only [Rp] using h
 | .val t x,vs,h=>by
  simp only [Rp] at h ⊢;obtain ⟨v,e,h⟩:=h;exact ⟨v,e,h.mono hI hw⟩
 | .gd b a,vs,h=>by
  simp only [Rp] at h ⊢;exact ⟨h.1,fun hb=>Rp.mono hI hw hA a vs (h.2.1 hb),h.2.2⟩
 | .opt b a,vs,h=>by
  simp only [Rp] at h ⊢;exact ⟨h.1,h.2.1,fun hb=>⟨Rp.mono hI hw hA a vs (h.2.2 hb).1,(h.2.2 hb).2⟩⟩
 | .anyb pos P,vs,h=>by simpa only [Rp] using h
 | .ref b s i o,vs,h=>by
  simp only [Rp] at h ⊢;obtain ⟨h1,h2⟩:=h;obtain ⟨g1,g2,g3⟩:=hA b h1;exact ⟨g1,by rw [g2];exact h2⟩
 | .sl b s i len c,vs,h=>by
  simp only [Rp] at h ⊢;obtain ⟨h1,ad,cap,h2,h3,h4⟩:=h;obtain ⟨g1,g2,g3⟩:=hA b h1;exact ⟨g1,ad,cap,h2,by rw [g3];exact h3,by rw [g2];exact h4⟩
 | .vsl t xs c,vs,h=>by
  simp only [Rp] at h ⊢;obtain ⟨ad,e1,e2,e3,h1⟩:=h;refine ⟨ad,e1,e2,e3,fun i x hx=>?_⟩
  obtain ⟨b,off,c,g1,g2,g3,g4⟩:=h1 i x hx;exact ⟨b,off,c,g1,hI b g2,RepC.mono hI hw t _ _ g3,g4.congr (hw b g2)⟩
 | .mref b,vs,h=>by
  simp only [Rp] at h ⊢;obtain ⟨h1,h2⟩:=h;obtain ⟨g1,g2,g3⟩:=hA b h1;exact ⟨g1,by rw [g2];exact h2⟩
 | .fn f caps,vs,h=>by
  simp only [Rp] at h ⊢;obtain ⟨us,e,h⟩:=h;exact ⟨us,e,Rp.mono hI hw hA caps us h⟩
 | .tup l,vs,h=>by
  simp only [Rp] at h ⊢;obtain ⟨us,e,h⟩:=h;exact ⟨us,e,Rp.mono hI hw hA l us h⟩
 | .agg l,vs,h=>by
  simp only [Rp] at h ⊢;obtain ⟨us,e,h,ho⟩:=h;exact ⟨us,e,Rp.mono hI hw hA l us h,ho⟩
 | .nil,vs,h=>by simpa only [Rp] using h
 | .cons a l,vs,h=>by
  simp only [Rp] at h ⊢;obtain ⟨v,us,e,h1,h2⟩:=h;exact ⟨v,us,e,Rp.mono hI hw hA a _ h1,Rp.mono hI hw hA l _ h2⟩
theorem Ra.ext {Γ Γ':Cx} {H H':List Hs} {w w':World} {a:AV} {v:Value} (e:EmbH Γ H w) (h:Ext Γ H w Γ' H' w') (ha:Ra w Γ a v):Ra w' Γ' a v :=
 Rp.mono h.mi (e.keepI h) h.al a _ ha
theorem RepB.mono {w w':World} {Γ Γ':Cx} {b:Nat} {B:Blk} (hI:∀ b,Γ.I b→Γ'.I b) (hw:∀ b,Γ.I b→w'.heap[b]?=w.heap[b]?)
  (hA:∀ b,Γ.A b→Γ'.A b∧Γ'.ν b=Γ.ν b∧Γ'.κ b=Γ.κ b) (hb:Γ.A b) (hs:Γ.κ b≠0→w'.heap[Γ.ν b]?=w.heap[Γ.ν b]?)
  (hO:∀ t rows ho,B=.nest t rows ho→Γ'.R b=Γ.R b∧∀ n,Γ.O b n→w'.heap[n]?=w.heap[n]?) (h:RepB w Γ b B):RepB w' Γ' b B:=by
 obtain ⟨_,g2,g3⟩:=hA b hb
 cases B with
 | arr t xs opn =>
  simp only [RepB] at h ⊢;obtain ⟨h3,h4,h⟩:=h;refine ⟨by rw [g3];exact h3,by rw [g3];exact h4,fun hk=>?_⟩
  rw [g3] at hk;obtain ⟨c,el,h1,h2,h5⟩:=h hk;refine ⟨c,el,by rw [g2,hs hk];exact h1,by rw [g3];exact h2,fun i x hx=>?_⟩
  obtain ⟨cs,k1,k2⟩:=h5 i x hx;exact ⟨cs,RepC.mono hI hw t _ _ k1,k2⟩
 | cells vs =>
  simp only [RepB] at h ⊢;obtain ⟨hk,c,el,h1,h2,h3⟩:=h;refine ⟨by rw [g3];exact hk,c,el,by rw [g2,hs hk];exact h1,h2,fun i a ha=>?_⟩
  obtain ⟨v,k1,k2,k3⟩:=h3 i a ha;exact ⟨v,k1,k2,Rp.mono hI hw hA a _ k3⟩
 | map k v es =>
  simp only [RepB] at h ⊢;obtain ⟨hk,ents,cl,h1,h2,h3⟩:=h;refine ⟨by rw [g3];exact hk,ents,cl,by rw [g2,hs hk];exact h1,h2,fun i e he=>?_⟩
  obtain ⟨ent,ck,cv,k1,k2,k3,k4,k5⟩:=h3 i e he;exact ⟨ent,ck,cv,k1,RepC.mono hI hw k _ _ k2,k3,RepC.mono hI hw v _ _ k4,k5⟩
 | pmap k v es0 =>
  simp only [RepB] at h ⊢;obtain ⟨es,hp,hd,hk,ents,cl,h1,h2,h3⟩:=h;refine ⟨es,hp,hd,by rw [g3];exact hk,ents,cl,by rw [g2,hs hk];exact h1,h2,fun i e he=>?_⟩
  obtain ⟨ent,ck,cv,k1,k2,k3,k4,k5⟩:=h3 i e he;exact ⟨ent,ck,cv,k1,RepC.mono hI hw k _ _ k2,k3,RepC.mono hI hw v _ _ k4,k5⟩
 | nest t rows ho =>
  obtain ⟨hR,hO⟩:=hO t rows ho rfl;simp only [RepB] at h ⊢;obtain ⟨h3,h⟩:=h;refine ⟨by rw [g3];exact h3,fun hk=>?_⟩
  rw [g3] at hk;obtain ⟨c,el,h1,h2,h4⟩:=h hk;refine ⟨c,el,by rw [g2,hs hk];exact h1,by rw [g3];exact h2,fun i r hr=>?_⟩
  obtain ⟨⟨k1,k2⟩,k3⟩:=h4 i r hr;rw [hR];refine ⟨⟨k1,fun hc=>?_⟩,k3⟩
  obtain ⟨c',el',m1,m2,m3⟩:=k2 hc;refine ⟨c',el',(hO _ ⟨i,hc,rfl⟩).trans m1,m2,fun j x hx=>?_⟩
  obtain ⟨cs,l1,l2⟩:=m3 j x hx;exact ⟨cs,RepC.mono hI hw t _ _ l1,l2⟩
 | mix pre t xs =>
  simp only [RepB] at h ⊢;obtain ⟨hn,hk,c,el,h1,h2,h3⟩:=h;refine ⟨hn,by rw [g3];exact hk,c,el,by rw [g2,hs hk];exact h1,h2,fun i a ha=>?_⟩
  obtain ⟨v,k1,k2,k3⟩:=h3 i a ha;exact ⟨v,k1,k2,Rp.mono hI hw hA a _ k3⟩
@[ext] structure St where
 T:List AV
 H:List Hs
structure Emb (Γ:Cx) (S:St) (a:Act) (w:World):Prop where
 defers:a.defers=[]
 size:a.tmps.size=S.T.length
 tmp:∀ (i:Nat) (x:AV),S.T[i]?=some x→∃ v,a.tmps[i]?=some v∧Ra w Γ x v
 heap:EmbH Γ S.H w
noncomputable section
def arrT:Nat→Ty→Ty
 | 0,_=>.unit
 | n+1,t=>.prod t (arrT n t)
def qa9 (t t':Ty) (x:Den t):Option (Den t'):=if h:t=t' then some (h▸x) else none
def qda (t t':Ty) (xs:List (Den t)):Option (List (Den t')):=qa9 (.slice t) (.slice t') xs
def sub:(T:Ty)→Nat→(te:Ty)→Den T→Option (Den te)
 | .prod a b,off,te,x =>
  if Ty.prod a b=te∧off=0 then qa9 (.prod a b) te x
  else if off<sz a then sub a off te x.1 else sub b (off-sz a) te x.2
 | T,off,te,x=>if off=0 then qa9 T te x else none
def qgv:(n:Nat)→(te:Ty)→Den (arrT n te)→Nat→Den te
 | 0,te,_,_=>dflt te
 | _+1,_,x,0=>x.1
 | n+1,te,x,i+1=>qgv n te x.2 i
def qed:(n:Nat)→(te:Ty)→Den (arrT n te)→List (Den te)
 | 0,_,_=>[]
 | n+1,te,x=>x.1::qed n te x.2
def qe2 (s:Ty):Ty→Bool
 | .unit=>true
 | .prod a b=>qe2 s a && qe2 s b
 | t=>decide (t=s)
def qzh:Ty→Option Ty
 | .unit=>none
 | .prod a b=>match qzh a with | some s=>some s | none=>qzh b
 | t=>some t
def qjs (s:Ty):(t:Ty)→Den t→List (Den s)
 | .unit,_=>[]
 | .prod a b,x=>qjs s a x.1++qjs s b x.2
 | t,x=>match qa9 t s x with | some y=>[y] | none=>[]
def qek (s:Ty):(t:Ty)→List (Den s)→Nat→Den t
 | .unit,_,_=>()
 | .prod a b,xs,i=>(qek s a xs i,qek s b xs (i+sz a))
 | t,xs,i=>(qa9 s t (xs.getD i (dflt s))).getD (dflt t)
def q0a:(t:Ty)→Den t→List AV
 | .unit,_=>[]
 | .prod a b,x=>q0a a x.1++q0a b x.2
 | t,x=>[.val t x]
def qz8 (t:Ty):AV→Option (Den t)
 | .val t' x=>qa9 t' t x
 | .vsl t' xs _=>qa9 (.slice t') t xs
 | .opt true (.vsl t' _ _)=>qa9 (.slice t') t ([]:List (Den t'))
 | .opt b (.val (.slice e) x)=>qa9 (.slice e) t (cond b ([]:List (Den e)) x)
 | _=>none
def qci:(t:Ty)→List AV→Option (Den t)
 | .unit,cs=>match cs with
  | []=>some ()
  | _=>none
 | .prod a b,cs=>match qci a (cs.take (sz a)),qci b (cs.drop (sz a)) with
  | some x,some y=>some (x,y)
  | _,_=>none
 | t,cs=>match cs with
  | [v]=>qz8 t v
  | _=>none
def wr (k:IntKind) (n:Int):Int:=k.wrap n
def ishl (k:IntKind) (x y:Int):Int:=k.wrap (x*2 ^ (min y.toNat k.bits))
def ishr (k:IntKind) (x y:Int):Int:=x.fdiv (2 ^ (min y.toNat k.bits))
def iand (k:IntKind) (x y:Int):Int:=k.wrap (BitVec.ofInt k.bits x &&& BitVec.ofInt k.bits y).toNat
def ior (k:IntKind) (x y:Int):Int:=k.wrap (BitVec.ofInt k.bits x ||| BitVec.ofInt k.bits y).toNat
def ixor (k:IntKind) (x y:Int):Int:=k.wrap (BitVec.ofInt k.bits x ^^^ BitVec.ofInt k.bits y).toNat
def qly (k:IntKind) (x y:Int):Int:=k.wrap (BitVec.ofInt k.bits x &&& ~~~ BitVec.ofInt k.bits y).toNat
def ilt (x y:Int):Bool:=decide (x<y)
def ile (x y:Int):Bool:=decide (x≤y)
def ieq (x y:Int):Bool:=x == y
def beqB (x y:Bool):Bool:=x == y
def imin (x y:Int):Int:=if y<x then y else x
def imax (x y:Int):Int:=if x<y then y else x
def deq:(t:Ty)→Den t→Den t→Bool
 | .int _,x,y=>ieq x y
 | .bool,x,y=>beqB x y
 | .unit,_,_=>true
 | .prod a b,x,y=>deq a x.1 y.1 && deq b x.2 y.2
 | _,_,_=>false
def qcw:Ty→Bool
 | .int _ | .bool | .unit=>true
 | .prod a b=>qcw a && qcw b
 | _=>false
def flat:Ty→Bool
 | .int _ | .bool | .unit=>true
 | .prod a b=>flat a && flat b
 | _=>false
def toAV:List AV→AV
 | []=>.nil
 | a::l=>.cons a (toAV l)
def isL:AV→Bool
 | .nil=>true
 | .cons _ l=>isL l
 | _=>false
def ofAV:AV→List AV
 | .cons a l=>a::ofAV l
 | _=>[]
inductive BOp where
 | add | sub | mul | quo | rem | and | or | xor | andn | shl | shr | eq | ne | lt | le | gt | ge
 deriving DecidableEq
inductive Od where
 | t (n:Nat)
 | k (a:AV)
inductive AO where
 | mv (x:Od)
 | pick (c a b:Od)
 | bin (op:BOp) (x y:Od)
 | eqv (neg:Bool) (t:Ty) (x y:Od)
 | not (x:Od)
 | neg (x:Od)
 | build (t:Ty) (fl:Bool) (z:List AV) (qyd:List (Nat×Ty×Od))
 | load (t:Ty) (x:Od)
 | store (t:Ty) (x v:Od)
 | alloc (k:Nat) (B:Blk)
 | box (k:Nat) (t:Ty) (x:Od)
 | nilc (x:Od)
 | snil (neg one:Bool) (x:Od)
 | fld (off:Nat) (te:Ty) (x:Od)
 | fldv (off:Nat) (te:Ty) (x:Od)
 | ixs (te:Ty) (x i:Od)
 | ixa (n:Nat) (te:Ty) (x i:Od)
 | ixv (n:Nat) (te:Ty) (x i:Od)
 | slc (te:Ty) (x:Od) (lo hi mx:Option Od)
 | sla (n:Nat) (te:Ty) (x:Od) (lo hi:Option Od)
 | ext (x:Od) (i:Nat)
 | call (k:Nat) (f:FuncId) (args:List Od)
 | callv (k:Nat) (g:Od) (args:List Od)
 | len (x:Od)
 | mm (mx:Bool) (x:Od) (xs:List Od)
 | conv (k:IntKind) (x:Od)
 | mkfn (f:FuncId) (caps:List Od)
 | bslice (te:Ty) (qyd:List Od)
 | bslicem (k:Nat) (te:Ty) (qyd:List Od)
 | bslicef (k:Nat) (te:Ty) (qyd:List Od)
 | append (k:Nat) (te:Ty) (bytes:Nat) (x y:Od)
 | lookup (kt vt:Ty) (d:Den vt) (x i:Od) (ok:Bool)
 | mapup (kt vt:Ty) (m key v:Od)
 | mkmap (k:Nat) (kt vt:Ty)
 | mkslice (k:Nat) (te:Ty) (z:Den te) (bytes:Nat) (n c:Od)
 | mkslicec (k:Nat) (te:Ty) (z:Den te) (bytes:Nat) (n c:Od)
 | loadh (k:Nat) (f:Bool) (t:Ty) (x:Od)
 | slct (te:Ty) (x:Od) (hi:Od)
 | mknest (k:Nat) (te:Ty) (bytes:Nat) (n c:Od)
 | cpy (te:Ty) (x y:Od)
 | flda (off:Nat) (x:Od)
 | boxm (k:Nat) (t:Ty) (x:Od)
 | nnest (k:Nat) (te:Ty)
structure AOp where
 dst:Option Nat
 op:AO
 g:Option (Nat×Bool)
structure Ef where
 ob:List Prop
 v:AV
 up:List (Nat×Hs)
 rd:List Nat
def Ef.fail:Ef:=⟨[False],.undef,[],[]⟩
def Ef.ok (v:AV):Ef:=⟨[],v,[],[]⟩
def Ef.add (e:Ef) (p:List Prop):Ef:=⟨p++e.ob,e.v,e.up,e.rd⟩
def Ef.when (p:List Prop) (v:AV):Ef:=⟨p,v,[],[]⟩
def qot:List Prop→Prop
 | []=>True
 | [p]=>p
 | p::ps=>p∧qot ps
def impP (c:Prop):List Prop→List Prop
 | []=>[]
 | l=>[c→qot l]
def ev (T:List AV):Od→AV
 | .t n=>T.getD n .undef
 | .k a=>a
def optP (b:Bool):AV→List Prop×AV
 | .vsl t [] 0=>([],.vsl t [] 0)
 | .val (.slice e) xs=>([],.val (.slice e) (cond b [] xs))
 | a=>([b=false],a)
def peel:AV→List Prop×AV
 | .gd b v=>((b=true)::(peel v).1,(peel v).2)
 | .opt b v=>optP b v
 | v=>([],v)
def nilF:AV→Option (List Prop×Bool)
 | .opt b _=>some ([],b)
 | .gd c v=>match nilF v with
  | some (p,b)=>some ((c=true)::p,b)
  | none=>none
 | _=>none
def nilE (one neg:Bool) (Q:Prop):Ef:=match one with
 | true=>.when [¬ Q] (.val .bool neg)
 | false=>.ok (.anyb (!neg) Q)
def p1 (x:AV) (k:AV→Ef):Ef :=
 ⟨(peel x).1++(k (peel x).2).ob,(k (peel x).2).v,(k (peel x).2).up,(k (peel x).2).rd⟩
def hget (H:List Hs) (b:Nat):Option Blk:=match H[b]? with | some (.live B)=>some B | _=>none
def hres (H:List Hs) (m:Nat):Option Blk:=match H[m]? with
 | some (.live B)=>some B
 | some (.view b i _)=>match hget H b with
  | some (.nest t rows _)=>some (.arr t (rows.getD i []) true)
  | _=>none
 | _=>none
def rdN (H:List Hs) (m:Nat):List Nat:=match H[m]? with
 | some (.view b _ _)=>[m,b]
 | _=>[m]
def qqu:Nat→Nat→List Nat
 | _,0=>[]
 | a,n+1=>a::qqu (a+1) n
def allN (H:List Hs):List Nat:=qqu 0 (H.length+1)
def qkk (b:Nat):Nat→List Hs→List (Nat×Hs)
 | _,[]=>[]
 | n,.view b' _ _::H=>match Nat.beq b' b with
  | true=>(n,.dead)::qkk b (n+1) H
  | false=>qkk b (n+1) H
 | n,_::H=>qkk b (n+1) H
def qtv (b m:Nat):Nat→List Hs→Option (Nat×Nat)
 | _,[]=>none
 | n,.view b' i f::H=>match Nat.beq b' b && (f && !Nat.beq n m) with
  | true=>some (n,i)
  | false=>qtv b m (n+1) H
 | n,_::H=>qtv b m (n+1) H
def quu {α:Type} (rows:List (List α)) (i j:Nat):List (List α):=(rows.set i (rows.getD j [])).set j (rows.getD i [])
def qay (H:List Hs) (b:Nat):Bool:=match H[b]? with | some .free=>true | _=>false
def qbj:Nat→List Hs→List Nat
 | _,[]=>[]
 | n,.live _::H=>n::qbj (n+1) H
 | n,.view ..::H=>n::qbj (n+1) H
 | n,_::H=>qbj (n+1) H
def qdz:AV→Bool
 | .val t _=>!isAgg t
 | .ref .. | .sl .. | .vsl .. | .mref _ | .fn .. | .opt ..=>true
 | _=>false
def zfc:AV→Bool
 | .undef=>true
 | x=>qdz x
def cellsOf (t:Ty) (v:AV):Option (List AV) :=
 if isAgg t then match v with
  | .val t' x=>(qa9 t' t x).map (q0a t)
  | .agg l=>if isL l=true∧(ofAV l).length=sz t then some (ofAV l) else none
  | _=>none
 else if qdz v then some [v] else none
def setMany {α:Type}:List α→Nat→List α→List α
 | l,_,[]=>l
 | l,i,v::vs=>setMany (l.set i v) (i+1) vs
def arrElems (H:List Hs) (e:Ty) (b s:Nat):Option (List (Den e)) :=
 match hres H b with
 | some (.arr te xs _)=>if s=sz te then qda te e xs else none
 | some (.nest t rows ho)=>match ho with
  | none=>if s=1 then qda (.slice t) e rows else none
  | some _=>none
 | _=>none
def arrAt (H:List Hs) (e:Ty) (b s i o:Nat):Option (List Prop×Den e) :=
 match hres H b with
 | some (.arr te xs _) =>
  if s=sz te∧o=0 then match qda te e xs with
   | some ys=>some ([i<ys.length],ys.getD i (dflt e))
   | none=>if (sz te=1∧0<sz e)∧qe2 te e=true then some ([i+sz e≤xs.length],qek te e xs i) else none
  else none
 | _=>none
def cellsAt (H:List Hs) (b j n:Nat):Option (List AV) :=
 match hget H b with
 | some (.cells vs)=>some ((vs.drop j).take n)
 | _=>none
def rv (H:List Hs):(t:Ty)→List AV→Option (List Prop×Den t)
 | .unit,cs=>match cs with
  | []=>some ([],())
  | _=>none
 | .prod a b,cs=>match rv H a (cs.take (sz a)),rv H b (cs.drop (sz a)) with
  | some (p,x),some (q,y)=>some (p++q,(x,y))
  | _,_=>none
 | .slice e,cs=>match cs with
  | [.val t' x]=>(qa9 t' (.slice e) x).map ([],·)
  | [.vsl t' xs _]=>(qa9 (.slice t') (.slice e) xs).map ([],·)
  | [.opt b (.val t' x)]=>(qa9 t' (.slice e) x).map fun (y:List (Den e))=>([],(cond b [] y:List (Den e)))
  | [.opt true (.vsl _ _ _)]=>some ([],([]:List (Den e)))
  | [.sl b s i len _]=>match arrElems H e b s with
   | some ys=>some ([i+len≤ys.length],((ys.drop i).take len:List (Den e)))
   | none=>none
  | _=>none
 | .optr e,cs=>match cs with
  | [.val t' x]=>match qa9 t' (.optr e) x with
   | some y=>some ([],y)
   | none=>(qa9 t' (.ptr e) x).map fun (y:Den e)=>([],some y)
  | [.ref b s i o]=>match cellsAt H b (i*s+o) (sz e) with
   | some vs=>(rv H e vs).map fun r=>(r.1,some r.2)
   | none=>(arrAt H e b s i o).map fun r=>(r.1,some r.2)
  | _=>none
 | .ptr e,cs=>match cs with
  | [.val t' x]=>match qa9 t' (.ptr e) x with
   | some y=>some ([],y)
   | none=>(qa9 t' (.optr e) x).map fun (y:Option (Den e))=>([Option.isSome y=true],Option.getD y (dflt e))
  | [.ref b s i o]=>match cellsAt H b (i*s+o) (sz e) with
   | some vs=>rv H e vs
   | none=>arrAt H e b s i o
  | _=>none
 | .map k v,cs=>match cs with
  | [.val t' x]=>(qa9 t' (.map k v) x).map ([],·)
  | [.mref b]=>match hget H b with
   | some (.map k' v' es)=>(qa9 (.map k' v') (.map k v) es).map ([],·)
   | _=>none
  | _=>none
 | t,cs=>match cs with
  | [.val t' x]=>(qa9 t' t x).map ([],·)
  | _=>none
def rvL (H:List Hs) (te:Ty) (v:AV):Option (List Prop×List (Den te)):=rv H (.slice te) [v]
def rvV (H:List Hs) (t:Ty) (v:AV):Option (List Prop×Den t) :=
 if isAgg t then match v with
  | .val t' x=>(qa9 t' t x).map ([],·)
  | .agg l=>match isL l with
   | true=>rv H t (ofAV l)
   | false=>none
  | _=>none
 else rv H t [v]
def qs8 (k v k' v':Ty) (es:List (Den k×Den v)):Option (List (Den k'×Den v')):=qa9 (.map k v) (.map k' v') es
def asInt:AV→Option (IntKind×Int)
 | .val (.int k) n=>some (k,n)
 | _=>none
def asBool:AV→Option Bool
 | .val .bool b=>some b
 | _=>none
def qfw (te:Ty):AV→Option (List (Den te))
 | .val t xs=>qa9 t (.slice te) xs
 | .vsl t xs _=>qa9 (.slice t) (.slice te) xs
 | _=>none
def asD (t:Ty):AV→Option (Den t)
 | .val t' x=>qa9 t' t x
 | _=>none
def binI (op:BOp) (k:IntKind) (x y:Int):List Prop×AV :=
 match op with
 | .add=>([],.val (.int k) (wr k (x+y)))
 | .sub=>([],.val (.int k) (wr k (x-y)))
 | .mul=>([],.val (.int k) (wr k (x*y)))
 | .quo=>([y≠0],.val (.int k) (wr k (x.tdiv y)))
 | .rem=>([y≠0],.val (.int k) (x.tmod y))
 | .and=>([],.val (.int k) (iand k x y))
 | .or=>([],.val (.int k) (ior k x y))
 | .xor=>([],.val (.int k) (ixor k x y))
 | .andn=>([],.val (.int k) (qly k x y))
 | .shl=>([0≤y],.val (.int k) (ishl k x y))
 | .shr=>([0≤y],.val (.int k) (ishr k x y))
 | .eq=>([],.val .bool (ieq x y))
 | .ne=>([],.val .bool (!ieq x y))
 | .lt=>([],.val .bool (ilt x y))
 | .le=>([],.val .bool (ile x y))
 | .gt=>([],.val .bool (ilt y x))
 | .ge=>([],.val .bool (ile y x))
def qdb (k v:Ty) (es:List (Den k×Den v)) (x:Den k):Option (Den v) :=
 match es with
 | []=>none
 | e::es=>if deq k x e.1 then some e.2 else qdb k v es x
def qcm (k v:Ty) (es:List (Den k×Den v)) (x:Den k) (y:Den v):List (Den k×Den v) :=
 match es with
 | []=>[(x,y)]
 | e::es=>if deq k x e.1 then (x,y)::es else e::qcm k v es x y
abbrev Spec:=FuncId→List Hs→Nat→List AV→Ef
def qsp:List AV→List Prop×List AV
 | []=>([],[])
 | a::l=>((peel a).1++(qsp l).1,(peel a).2::(qsp l).2)
def qrk:AV→List Prop×AV
 | .gd b v=>((b=true)::(qrk v).1,(qrk v).2)
 | v=>([],v)
def qgj:List AV→List Prop×List AV
 | []=>([],[])
 | a::l=>((qrk a).1++(qgj l).1,(qrk a).2::(qgj l).2)
def qqb (t:Ty) (v:AV):Option Blk :=
 if isAgg t then
  match v with
  | .val t' x=>match qa9 t' t x with
   | some y=>match qzh t with
    | some s=>if qe2 s t && sz s == 1 then some (.arr s (qjs s t y) false) else if 0<sz t then some (.cells (q0a t y)) else none
    | none=>none
   | none=>none
  | .agg l=>if isL l=true∧(ofAV l).length=sz t∧0<sz t then some (.cells (ofAV l)) else none
  | _=>none
 else if qdz v then some (.cells [v]) else none
def q2y:List AV→Option (List Int)
 | []=>some []
 | .val (.int .i64) n::l=>match q2y l with
  | some xs=>some (n::xs)
  | none=>none
 | _=>none
def q5b:Blk→Option Blk
 | .cells (v::vs)=>match q2y vs with
  | some xs=>some (.mix [v] (.int .i64) xs)
  | none=>none
 | _=>none
def qvi (t:Ty) (v:AV):Option Blk:=match qqb t v with
 | some B=>q5b B
 | none=>none
def qc1 (T:List AV):List AV→List (Nat×Ty×Od)→Option (List AV)
 | z,[]=>some z
 | z,(off,te,x)::ps=>match cellsOf te (ev T x) with
  | some cs=>if off+sz te≤z.length then qc1 T (setMany z off cs) ps else none
  | none=>none
def qdn (te:Ty) (T:List AV):List Od→Option (List Prop×List (Den te))
 | []=>some ([],[])
 | x::xs=>match peel (ev T x),qdn te T xs with
  | (p,.val t' y),some (q,ys)=>match qa9 t' te y with
   | some z=>some (p++q,z::ys)
   | none=>none
  | _,_=>none
def qqt (mx:Bool) (k:IntKind) (T:List AV):Int→List Od→Option (List Prop×Int)
 | a,[]=>some ([],a)
 | a,x::xs=>match asInt (peel (ev T x)).2 with
  | some (k',b)=>match qqt mx k T (if mx then imax a b else imin a b) xs with
   | some (p,c)=>if k=k' then some ((peel (ev T x)).1++p,c) else none
   | none=>none
  | none=>none
def optI (T:List AV):Option Od→Option (List Prop×Option Int)
 | none=>some ([],none)
 | some x=>match asInt (peel (ev T x)).2 with
  | some (_,n)=>some ((peel (ev T x)).1,some n)
  | none=>none
def frzE (H:List Hs):Ty→AV→Ef
 | .slice t,.sl b s i len _=>match hget H b with
  | some (.arr t' xs _)=>match qda t' t xs with
   | some ys=>if s=sz t then ⟨[i+len≤ys.length],.val (.slice (.slice t)) [(ys.drop i).take len],[(b,.dead)],[b]⟩ else .fail
   | none=>.fail
  | some (.nest t' rows none)=>match qda (.slice t') t rows with
   | some ys=>if s=1 then ⟨[i+len≤ys.length],.val (.slice (.slice t)) [(ys.drop i).take len],[(b,.dead)],[b]⟩ else .fail
   | none=>.fail
  | _=>.fail
 | _,_=>.fail
def frzL (H:List Hs) (T:List AV) (te:Ty):List Od→Ef
 | [.t j]=>p1 (T.getD j .undef) (frzE H te)
 | _=>.fail
def qrx:Bool→Option Nat→Bool
 | false,none=>true
 | _,_=>false
def fnA (f:FuncId) (args caps:List AV):List AV:=match Nat.ble 4096 f with
 | true=>caps++args
 | false=>args++caps
def qye (rd:List Nat) (t:Ty) (i:Nat) (te:Ty) (xs:List (Den te)):Ef:=match qda te t xs with
 | some ys=>⟨[i<ys.length],.val t (ys.getD i (dflt t)),[],rd⟩
 | none=>.fail
def qta (rd:List Nat) (t:Ty) (i o:Nat) (pre:List AV) (te:Ty) (xs:List (Den te)):Ef:=match o with
 | 0=>match Nat.ble pre.length i with
  | false=>match pre[i]? with
   | some v=>⟨[],v,[],rd⟩
   | none=>.fail
  | true=>qye rd t (i-pre.length) te xs
 | o+1=>match Nat.beq (o+1) pre.length with
  | true=>qye rd t i te xs
  | false=>.fail
def qqd (t:Ty) (b i:Nat) (pre:List AV) (te:Ty) (xs:List (Den te)):AV→Ef
 | .val t' y=>if t'=t then match qa9 t' te y with
   | some z=>⟨[i<xs.length],.undef,[(b,.live (.mix pre te (xs.set i z)))],[b]⟩
   | none=>.fail
  else .fail
 | _=>.fail
def qsw (t:Ty) (b i o:Nat) (pre:List AV) (te:Ty) (xs:List (Den te)) (v:AV):Ef:=match o with
 | 0=>match Nat.ble pre.length i with
  | false=>match qdz v with
   | true=>⟨[],.undef,[(b,.live (.mix (pre.set i v) te xs))],[b]⟩
   | false=>.fail
  | true=>qqd t b (i-pre.length) pre te xs v
 | o+1=>match Nat.beq (o+1) pre.length with
  | true=>qqd t b i pre te xs v
  | false=>.fail
def qea (H:List Hs) (t:Ty):AV→Ef
 | .val (.ptr t') y=>match qa9 t' t y with
  | some z=>.ok (.val t z)
  | none=>.fail
 | .ref b s i o=>match hres H b with
  | some (.cells vs) =>
   if isAgg t then match qci t ((vs.drop (i*s+o)).take (sz t)) with
    | some z=>⟨[],.val t z,[],rdN H b⟩
    | none=>match Nat.beq ((vs.drop (i*s+o)).take (sz t)).length (sz t) with
     | true=>⟨[],.agg (toAV ((vs.drop (i*s+o)).take (sz t))),[],rdN H b⟩
     | false=>.fail
   else match vs[i*s+o]? with
    | some v=>⟨[],v,[],rdN H b⟩
    | none=>.fail
  | some (.arr te xs _) =>
   if s=sz te then
    match (if o=0 then qda te t xs else none) with
    | some ys=>⟨[i<ys.length],.val t (ys.getD i (dflt t)),[],rdN H b⟩
    | none =>
     if o=0∧sz te=1∧qe2 te t=true then ⟨[i+sz t≤xs.length],.val t (qek te t xs i),[],rdN H b⟩
     else match sub te o t (xs.getD i (dflt te)) with
      | some z=>⟨[i<xs.length],.val t z,[],rdN H b⟩
      | none=>.fail
   else .fail
  | some (.mix pre te xs)=>if s=1∧isAgg t=false then qta (rdN H b) t i o pre te xs else .fail
  | _=>.fail
 | _=>.fail
def qj1 (H:List Hs) (t:Ty) (b s i o:Nat) (v:AV):Ef:=match H[b]? with
 | some (.view n p _)=>match hget H n with
  | some (.nest te rows ho)=>if s=sz te∧o=0 then match v with
    | .val t' y=>if t'=t then match qa9 t' te y with
      | some z=>⟨[i<List.length (α:=Den te) (rows.getD p [])],.undef,[(n,.live (.nest te (rows.set p ((rows.getD p []).set i z)) ho))],[b,n]⟩
      | none=>.fail
     else .fail
    | _=>.fail
   else .fail
  | _=>.fail
 | _=>.fail
def capC (n:Nat):Bool→Option Nat→Option (List Prop)
 | _,none=>some []
 | false,some c=>some [c=n]
 | true,some _=>none
def qhf (H:List Hs) (t:Ty) (b s i o:Nat) (te:Ty) (rows:List (List (Den te))) (ho:Option (Nat×Nat)):AV→Ef
 | .sl m s' j len c=>if (s=1∧o=0)∧(t=.slice te∧s'=sz te∧j=0) then match H[m]? with
   | some (.live (.arr te' xs opn))=>match qda te' te xs,capC xs.length opn c,ho with
    | some ys,some q,none=>⟨[i<rows.length,len=ys.length]++q,.undef,qkk b 0 H++[(b,.live (.nest te (rows.set i ys) none)),(m,.view b i false)],allN H⟩
    | _,_,_=>.fail
   | some (.view b' p f)=>match Nat.beq b' b,c with
    | true,none=>match f,ho with
     | false,some (q,m')=>match Nat.beq m' m with
      | true=>⟨[i<rows.length,i=q,i=p,len=List.length (α:=Den te) (rows.getD p [])],.undef,[(b,.live (.nest te rows none))],[b,m]⟩
      | false=>.fail
     | false,none=>⟨[i<rows.length,i=p,len≤List.length (α:=Den te) (rows.getD p [])],.undef,[(b,.live (.nest te (rows.set p ((rows.getD p []).take len)) none))],[b,m]⟩
     | true,none=>match qtv b m 0 H with
      | some (m2,i2)=>⟨[i<rows.length,p<rows.length,i=i2,len=List.length (α:=Den te) (rows.getD p [])],.undef,qkk b 0 H++[(b,.live (.nest te (quu rows i2 p) (some (p,m2)))),(m,.view b i2 false),(m2,.view b p false)],allN H⟩
      | none=>.fail
     | true,some _=>.fail
    | _,_=>.fail
   | _=>.fail
  else .fail
 | _=>.fail
def qns (H:List Hs) (t:Ty) (b s i o:Nat) (v:AV):Ef :=
 match hget H b with
 | some (.cells vs)=>match cellsOf t v with
  | some cs=>if i*s+o+sz t≤vs.length then ⟨[],.undef,[(b,.live (.cells (setMany vs (i*s+o) cs)))],[b]⟩ else .fail
  | none=>.fail
 | some (.arr te xs opn) =>
  if s=sz te∧o=0 then match v with
   | .val t' y =>
    if t'=t then match qa9 t' te y with
     | some z=>⟨[i<xs.length],.undef,[(b,.live (.arr te (xs.set i z) opn))],[b]⟩
     | none=>if (sz te=1∧0<sz t')∧qe2 te t'=true then ⟨[i+sz t'≤xs.length],.undef,[(b,.live (.arr te (setMany xs i (qjs te t' y)) opn))],[b]⟩ else .fail
    else .fail
   | _=>.fail
  else .fail
 | some (.nest te rows ho)=>qhf H t b s i o te rows ho v
 | some (.mix pre te xs)=>if s=1∧isAgg t=false then qsw t b i o pre te xs v else .fail
 | none=>qj1 H t b s i o v
 | _=>.fail
def qcp (H:List Hs):AV→Bool
 | .sl n _ _ _ _=>match hget H n with
  | some (.nest ..)=>true
  | _=>false
 | _=>false
def qx2 (H:List Hs):AV→Option Blk
 | .sl n _ _ _ _=>hget H n
 | _=>none
def q8i (nw:Nat) (te:Ty) (bytes:Nat) (y x:AV) (hy hx:Option Blk) (fr:Bool):Ef:=match y with
 | .sl n sy iy ly _=>match hy with
  | some (.nest t [r] none)=>match fr && (decide (te=.slice t) && (Nat.beq sy 1 && (Nat.beq iy 0 && Nat.beq ly 1))) with
   | true=>match x with
    | .vsl t' [] c=>match decide (t'=.slice t) && Nat.beq c 0 with
     | true=>⟨[bytes≤1099511627776],.sl nw 1 0 1 none,[(n,.dead),(nw,.live (.nest t [r] none))],[n]⟩
     | false=>.fail
    | .sl b s i len none=>match hx with
     | some (.nest t' rows none)=>match qda (.slice t') (.slice t) rows,Nat.beq s 1 && (Nat.beq i 0 && !Nat.beq b n) with
      | some rows,true=>⟨[len≤rows.length,(len+1)*bytes≤1099511627776],.sl nw 1 0 (len+1) none,[(b,.dead),(n,.dead),(nw,.live (.nest t ((show List (List (Den t)) from rows).take len++[r]) none))],[b,n]⟩
      | _,_=>.fail
     | some (.arr t' [] true)=>match decide (t'=.slice t) && (Nat.beq s 1 && (Nat.beq i 0 && Nat.beq len 0)) with
      | true=>⟨[bytes≤1099511627776],.sl nw 1 0 1 none,[(b,.dead),(n,.dead),(nw,.live (.nest t [r] none))],[b,n]⟩
      | false=>.fail
     | _=>.fail
    | _=>.fail
   | false=>.fail
  | _=>.fail
 | _=>.fail
def appN (H:List Hs) (nw:Nat) (te:Ty) (bytes:Nat) (y x:AV):Ef:=q8i nw te bytes y x (qx2 H y) (qx2 H x) (qay H nw)
def appV (H:List Hs) (nw:Nat) (te:Ty) (bytes:Nat) (q:List Prop) (ys:List (Den te)) (b s i len:Nat) (c:Option Nat):Ef:=match H[b]?,c with
 | some (.view n p _),none=>match hget H n with
  | some (.nest t rows none)=>match qda te t ys with
   | some ys=>if qay H nw∧s=sz t∧i=0∧te=t then
     ⟨q++[p<rows.length,len≤List.length (α:=Den t) (rows.getD p []),(len+ys.length)*bytes≤1099511627776],.sl nw (sz t) 0 (len+ys.length) none,qkk n 0 H++[(n,.live (.nest t (rows.set p ((rows.getD p []).take len++ys)) (some (p,nw)))),(nw,.view n p false)],allN H⟩ else .fail
   | none=>.fail
  | _=>.fail
 | _,_=>.fail
def litN (H:List Hs) (nw:Nat):Ty→AV→Ef
 | .slice t,.sl m s i len c=>match hget H m with
  | some (.arr t' xs opn)=>match qda t' t xs,capC xs.length opn c with
   | some ys,some q=>if qay H nw∧s=sz t∧i=0 then ⟨[len=ys.length]++q,.sl nw 1 0 1 (some 1),[(m,.dead),(nw,.live (.nest t [ys] none))],[m]⟩ else .fail
   | _,_=>.fail
  | _=>.fail
 | _,_=>.fail
def qrb (H:List Hs) (te:Ty) (n:Int):AV→Ef
 | .sl b s i len c=>match hget H b,i,c with
  | some (.arr t xs true),0,none=>if s=sz t∧t=te then ⟨[0≤n∧n≤(len:Nat)],.sl b s 0 n.toNat none,[(b,.live (.arr t (xs.take n.toNat) true))],[b]⟩ else .fail
  | some (.nest t rows none),0,none=>if s=1∧te=.slice t then ⟨[0≤n∧n≤(len:Nat)],.sl b s 0 n.toNat none,[(b,.live (.nest t (rows.take n.toNat) none))],[b]⟩ else .fail
  | _,_,_=>.fail
 | _=>.fail
def litL (H:List Hs) (nw:Nat) (te:Ty) (T:List AV):List Od→Ef
 | [x]=>p1 (ev T x) (litN H nw te)
 | _=>.fail
def aeff (sp:Spec) (base:Nat) (T:List AV) (H:List Hs):AO→Ef
  | .mv x=>.ok (ev T x)
  | .pick c a b=>p1 (ev T c) fun c=>match asBool c with
    | some x=>match peel (ev T a),peel (ev T b) with
      | (p,.val t1 y1),(q,.val t2 y2)=>match qa9 t2 t1 y2 with
        | some y=>.when (impP (x=true) p++impP (x=false) q) (.val t1 (bif x then y1 else y))
        | none=>.fail
      | (p,.val t1 y1),(_,.undef)=>.when (impP (x=true) p++[x=true]) (.val t1 y1)
      | _,_=>.fail
    | none=>.fail
  | .bin op x y=>p1 (ev T x) fun x=>p1 (ev T y) fun y=>match asInt x,asInt y with
    | some (k,a),some (k',b)=>if op=.shl∨op=.shr∨k=k' then .when (binI op k a b).1 (binI op k a b).2 else .fail
    | _,_=>.fail
  | .eqv neg t x y=>p1 (ev T x) fun x=>p1 (ev T y) fun y=>match asD t x,asD t y with
    | some a,some b=>if qcw t then .ok (.val .bool (if neg then !deq t a b else deq t a b)) else .fail
    | _,_=>.fail
  | .not x=>p1 (ev T x) fun x=>match asBool x with
    | some b=>.ok (.val .bool (!b))
    | none=>.fail
  | .neg x=>p1 (ev T x) fun x=>match asInt x with
    | some (k,n)=>.ok (.val (.int k) (wr k (0-n)))
    | none=>.fail
  | .build t fl z ps=>match qc1 T z ps with
    | some cs=>match (cond fl none (qci t cs):Option (Den t)) with
      | some x=>.ok (.val t x)
      | none=>if cs.length=sz t∧cs.all zfc then .ok (.agg (toAV cs)) else .fail
    | none=>.fail
  | .load t x=>p1 (ev T x) (qea H t)
  | .store t x v=>p1 (ev T x) fun
    | .ref b s i o=>p1 (ev T v) (qns H t b s i o)
    | _=>.fail
  | .alloc k B=>if qay H (base+k) then ⟨[],.ref (base+k) 1 0 0,[(base+k,.live B)],[]⟩ else .fail
  | .box k t x=>p1 (ev T x) fun v=>match qqb t v with
    | some B=>if qay H (base+k) then ⟨[],.ref (base+k) 1 0 0,[(base+k,.live B)],[]⟩ else .fail
    | none=>.fail
  | .boxm k t x=>p1 (ev T x) fun v=>match qvi t v with
    | some B=>if qay H (base+k) then ⟨[],.ref (base+k) 1 0 0,[(base+k,.live B)],[]⟩ else .fail
    | none=>.fail
  | .nilc x=>p1 (ev T x) fun
    | .val (.optr e) o=>.when [Option.isSome (α:=Den e) o=true] (.val (.ptr e) (Option.getD (α:=Den e) o (dflt e)))
    | .val (.ptr e) y=>.ok (.val (.ptr e) y)
    | .ref b s i o=>.ok (.ref b s i o)
    | .fn f c=>.ok (.fn f c)
    | _=>.fail
  | .snil neg one x=>match nilF (ev T x) with
   | some (p,c)=>match one with
     | true=>.when (p++[c=true]) (.val .bool (!neg))
     | false=>.when p (.val .bool (cond neg (!c) c))
   | none=>p1 (ev T x) fun
    | .val (.slice e) xs=>nilE one neg (List.length (α:=Den e) xs=0)
    | .vsl _ xs _=>nilE one neg (xs.length=0)
    | .sl _ _ _ len _=>nilE one neg (len=0)
    | _=>.fail
  | .fld off te x=>p1 (ev T x) fun
    | .val (.ptr t) y=>match sub t off te y with
      | some z=>.ok (.val (.ptr te) z)
      | none=>.fail
    | .ref b s i o=>if s=1 then .ok (.ref b 1 (i+off) o) else .ok (.ref b s i (o+off))
    | _=>.fail
  | .flda off x=>p1 (ev T x) fun
    | .ref b s i o=>if s=1∧(i=0∧o=0) then .ok (.ref b 1 0 off) else .fail
    | _=>.fail
  | .fldv off te x=>p1 (ev T x) fun
    | .val t y => if isAgg t then match sub t off te y with
        | some z=>.ok (.val te z)
        | none=>.fail
      else .fail
    | _=>.fail
  | .ixs te x i=>p1 (ev T i) fun i=>match asInt i with
    | some (_,n)=>p1 (ev T x) fun x=>match qfw te x with
      | some ys=>.when [0≤n∧n<(ys.length:Nat)] (.val (.ptr te) (ys.getD n.toNat (dflt te)))
      | none=>match x with
        | .sl b s j len _=>if s=sz te then .when [0≤n∧n<(len:Nat)] (.ref b s (j+n.toNat) 0) else .fail
        | _=>.fail
    | none=>.fail
  | .ixa n te x i=>p1 (ev T i) fun i=>match asInt i with
    | some (_,j)=>p1 (ev T x) fun
      | .val (.ptr t) y=>match qa9 t (arrT n te) y with
        | some z=>.when [0≤j∧j<(n:Nat)] (.val (.ptr te) (qgv n te z j.toNat))
        | none=>.fail
      | .ref b s i0 o => if s = 1 then .when [0 ≤ j ∧ j < (n:Nat)] (.ref b 1 (i0 + j.toNat * sz te) o)
          else .when [0≤j∧j<(n:Nat)] (.ref b s i0 (o+j.toNat*sz te))
      | _=>.fail
    | none=>.fail
  | .ixv n te x i=>p1 (ev T i) fun i=>match asInt i with
    | some (_,j)=>p1 (ev T x) fun x=>match asD (arrT n te) x with
      | some z=>.when [0≤j∧j<(n:Nat)] (.val te (qgv n te z j.toNat))
      | none=>.fail
    | none=>.fail
  | .slc te x lo hi mx=>match optI T lo,optI T hi,optI T mx with
    | some (p,lo),some (q,hi),some (r,mx)=>p1 (ev T x) fun x=>match qfw te x with
      | some ys => match lo, hi, mx with
          | none,none,none=>.when (p++q++r) x
          | some l,none,none=>.when (p++q++r++[0≤l∧l≤(ys.length:Nat)]) (.val (.slice te) (ys.drop l.toNat))
          | none,some h,none=>.when (p++q++r++[0≤h∧h≤(ys.length:Nat)]) (.val (.slice te) (ys.take h.toNat))
          | some l,some h,none=>.when (p++q++r++[0≤l∧l≤h∧h≤(ys.length:Nat)]) (.val (.slice te) ((ys.take h.toNat).drop l.toNat))
          | none,some h,some m=>.when (p++q++r++[0≤h∧h≤m∧m≤(ys.length:Nat)]) (.vsl te (ys.take h.toNat) m.toNat)
          | some l,some h,some m=>.when (p++q++r++[0≤l∧l≤h∧h≤m∧m≤(ys.length:Nat)]) (.vsl te ((ys.take h.toNat).drop l.toNat) (m.toNat-l.toNat))
          | _,_,_=>.fail
      | none=>match x with
        | .sl b s i len c=>if s=sz te then match lo,hi,mx with
          | none,none,none=>.when (p++q++r) (.sl b s i len c)
          | some l,none,none=>.when (p++q++r++[0≤l∧l≤(len:Nat)]) (.sl b s (i+l.toNat) (len-l.toNat) (c.map (·-l.toNat)))
          | none,some h,none=>.when (p++q++r++[0≤h∧h≤(len:Nat)]) (.sl b s i h.toNat c)
          | some l,some h,none=>.when (p++q++r++[0≤l∧l≤h∧h≤(len:Nat)]) (.sl b s (i+l.toNat) (h.toNat-l.toNat) (c.map (·-l.toNat)))
          | none,some h,some m=>.when (p++q++r++[0≤h∧h≤m∧m≤(len:Nat)]) (.sl b s i h.toNat (some m.toNat))
          | _,_,_=>.fail
          else .fail
        | _=>.fail
    | _,_,_=>.fail
  | .sla n te x lo hi=>match optI T lo,optI T hi with
    | some (p,lo),some (q,hi)=>p1 (ev T x) fun
      | .val (.ptr t) y=>match qa9 t (arrT n te) y with
        | some z=>match lo,hi with
          | none,none=>.when (p++q) (.val (.slice te) (qed n te z))
          | some l,none=>.when (p++q++[0≤l∧l≤(n:Nat)]) (.val (.slice te) ((qed n te z).drop l.toNat))
          | none,some h=>.when (p++q++[0≤h∧h≤(n:Nat)]) (.val (.slice te) ((qed n te z).take h.toNat))
          | _,_=>.fail
        | none=>.fail
      | .ref b s i o => if s = sz te ∧ o = 0 then match lo, hi with
          | none,none=>.when (p++q) (.sl b s i n (some n))
          | some l,none=>.when (p++q++[0≤l∧l≤(n:Nat)]) (.sl b s (i+l.toNat) (n-l.toNat) (some (n-l.toNat)))
          | none,some h=>.when (p++q++[0≤h∧h≤(n:Nat)]) (.sl b s i h.toNat (some n))
          | _,_=>.fail
        else .fail
      | _=>.fail
    | _,_=>.fail
  | .ext x i=>p1 (ev T x) fun
    | .tup l=>match (ofAV l)[i]? with
      | some v=>.ok v
      | none=>.fail
    | _=>.fail
  | .call k f args=>(sp f H (base+k) (qgj (args.map (ev T))).2).add (qgj (args.map (ev T))).1
  | .callv k g args=>p1 (ev T g) fun
    | .fn f caps=>if isL caps then (sp (fnF f) H (base+k) (fnA f (qgj (args.map (ev T))).2 (ofAV caps))).add (qgj (args.map (ev T))).1 else .fail
    | _=>.fail
  | .len x=>p1 (ev T x) fun
    | .val (.slice e) xs=>.ok (.val (.int .i64) ((List.length (α:=Den e) xs:Nat):Int))
    | .vsl _ xs _=>.ok (.val (.int .i64) ((xs.length:Nat):Int))
    | .sl _ _ _ len _=>.ok (.val (.int .i64) ((len:Nat):Int))
    | _=>.fail
  | .mm mx x xs=>p1 (ev T x) fun x=>match asInt x with
    | some (k,a)=>match qqt mx k T a xs with
      | some (p,b)=>.when p (.val (.int k) b)
      | none=>.fail
    | none=>.fail
  | .conv k x=>p1 (ev T x) fun x=>match asInt x with
    | some (_,n)=>.ok (.val (.int k) (wr k n))
    | none=>.fail
  | .mkfn f caps=>.ok (.fn f (toAV (caps.map (ev T))))
  | .bslice te ps=>match qdn te T ps with
    | some (p,xs)=>.when p (.val (.slice te) xs)
    | none=>frzL H T te ps
  | .bslicef k te ps=>match qdn te T ps with
    | some (p,xs)=>if qay H (base+k) then ⟨p,.sl (base+k) (sz te) 0 ps.length none,[(base+k,.live (.arr te xs true))],[]⟩ else .fail
    | none=>.fail
  | .bslicem k te ps=>match qdn te T ps with
    | some (p,xs)=>if qay H (base+k) then ⟨p,.sl (base+k) (sz te) 0 ps.length (if ps.isEmpty then none else some ps.length),[(base+k,.live (.arr te xs ps.isEmpty))],[]⟩ else .fail
    | none=>litL H (base+k) te T ps
  | .append k te bytes x y=>p1 (ev T y) fun y=>match qcp H y with
   | true=>p1 (ev T x) (appN H (base+k) te bytes y)
   | false=>match rvL H te y with
    | some (q,ys)=>p1 (ev T x) fun
      | .vsl t xs c=>match qda t te xs with
        | some zs => if qay H (base + k) then
            ⟨q++[c<zs.length+ys.length,(zs.length+ys.length)*bytes≤1099511627776],.sl (base+k) (sz te) 0 (zs.length+ys.length) none,[(base+k,.live (.arr te (zs++ys) true))],qbj 0 H⟩ else .fail
        | none=>.fail
      | .sl b s i len c=>match hget H b with
        | some (.arr t xs opn)=>match qda t te xs with
          | some zs=>match qrx opn c with
            | true => if s = sz te then
                  ⟨q++[i+(len+ys.length)≤zs.length],.sl b (sz te) i (len+ys.length) none,[(b,.live (.arr te (setMany zs (i+len) ys) false))],qbj 0 H⟩ else .fail
            | false=>if qay H (base+k)∧s=sz te then match c with
              | none => if i = 0 ∧ opn = true then
                  ⟨q++[len≤zs.length,(len+ys.length)*bytes≤1099511627776],.sl (base+k) (sz te) 0 (len+ys.length) none,[(b,.dead),(base+k,.live (.arr te (zs.take len++ys) true))],qbj 0 H⟩ else .fail
              | some c =>
                  ⟨q++[i+len≤zs.length,c<len+ys.length,(len+ys.length)*bytes≤1099511627776],.sl (base+k) (sz te) 0 (len+ys.length) none,[(base+k,.live (.arr te ((zs.drop i).take len++ys) true))],qbj 0 H⟩
            else .fail
          | none=>.fail
        | none=>appV H (base+k) te bytes q ys b s i len c
        | _=>.fail
      | _=>.fail
    | none=>.fail
  | .lookup kt vt d x i ok=>p1 (ev T i) fun i=>match asD kt i with
    | some key => if qcw kt then p1 (ev T x) fun x => match asD (.map kt vt) x with
        | some es => if ok then .ok (.tup (.cons (.val vt ((qdb kt vt es key).getD d)) (.cons (.val .bool (qdb kt vt es key).isSome) .nil)))
            else .ok (.val vt ((qdb kt vt es key).getD d))
        | none=>match x with
          | .mref b=>match hget H b with
            | some (.map k' v' es)=>match qs8 k' v' kt vt es with
              | some es => if ok then ⟨[], .tup (.cons (.val vt ((qdb kt vt es key).getD d)) (.cons (.val .bool (qdb kt vt es key).isSome) .nil)), [], [b]⟩
                  else ⟨[],.val vt ((qdb kt vt es key).getD d),[],[b]⟩
              | none=>.fail
            | some (.pmap k' v' es)=>match qs8 k' v' kt vt es with
              | some es => if ok then ⟨[], .tup (.cons (.val vt ((qdb kt vt es key).getD d)) (.cons (.val .bool (qdb kt vt es key).isSome) .nil)), [], [b]⟩
                  else ⟨[],.val vt ((qdb kt vt es key).getD d),[],[b]⟩
              | none=>.fail
            | _=>.fail
          | _=>.fail
        else .fail
    | none=>.fail
  | .mapup kt vt m key v=>p1 (ev T m) fun
    | .mref b=>p1 (ev T key) fun key=>p1 (ev T v) fun v=>match asD kt key,asD vt v,hget H b with
      | some x,some y,some (.map k' v' es)=>match qs8 k' v' kt vt es with
        | some es=>if qcw kt then ⟨[],.undef,[(b,.live (.map kt vt (qcm kt vt es x y)))],[b]⟩ else .fail
        | none=>.fail
      | _,_,_=>.fail
    | _=>.fail
  | .mkmap k kt vt=>if qay H (base+k) then ⟨[],.mref (base+k),[(base+k,.live (.map kt vt []))],[]⟩ else .fail
  | .mkslice k te z bytes n c=>p1 (ev T n) fun n=>p1 (ev T c) fun c=>match asInt n,asInt c with
    | some (_, n), some (_, c) => if qay H (base + k) then
        ⟨[0≤n∧n≤c∧c*bytes≤1099511627776],.sl (base+k) (sz te) 0 n.toNat none,[(base+k,.live (.arr te (List.replicate n.toNat z) true))],[]⟩ else .fail
    | _,_=>.fail
  | .mkslicec k te z bytes n c=>p1 (ev T n) fun n=>p1 (ev T c) fun c=>match asInt n,asInt c with
    | some (_, n), some (_, c) => if qay H (base + k) then
        ⟨[0≤n∧n≤c∧c*bytes≤1099511627776],.sl (base+k) (sz te) 0 n.toNat none,[(base+k,.live (.arr te (List.replicate c.toNat z) false))],[]⟩ else .fail
    | _,_=>.fail
  | .loadh k f t x=>p1 (ev T x) fun v=>match v with
    | .ref b s i o=>match hget H b with
      | some (.nest t' rows ho) => if (t' = t ∧ qay H (base + k)) ∧ (s = 1 ∧ o = 0) then match ho with
          | none=>⟨[i<rows.length],.sl (base+k) (sz t') 0 (List.length (α:=Den t') (rows.getD i [])) none,[(base+k,.view b i f)],[b]⟩
          | some (q,_)=>⟨[i<rows.length,i≠q],.sl (base+k) (sz t') 0 (List.length (α:=Den t') (rows.getD i [])) none,[(base+k,.view b i f)],[b]⟩
        else .fail
      | _=>qea H (.slice t) v
    | _=>qea H (.slice t) v
  | .slct te x hi=>p1 (ev T hi) fun h=>match asInt h with
    | some (_,n)=>p1 (ev T x) (qrb H te n)
    | none=>.fail
  | .mknest k te bytes n c=>p1 (ev T n) fun n=>p1 (ev T c) fun c=>match asInt n,asInt c with
    | some (_, n), some (_, c) => if qay H (base + k) then
        ⟨[0≤n∧n≤c∧c*bytes≤1099511627776],.sl (base+k) 1 0 n.toNat none,[(base+k,.live (.nest te (List.replicate n.toNat []) none))],[]⟩ else .fail
    | _,_=>.fail
  | .nnest k te=>if qay H (base+k) then ⟨[],.sl (base+k) 1 0 0 none,[(base+k,.live (.nest te [] none))],[]⟩ else .fail
  | .cpy te x y=>match flat te with
    | true=>p1 (ev T y) fun y=>match rvL H te y with
      | some (q,ys)=>p1 (ev T x) fun
        | .sl b s i len _=>match hget H b with
          | some (.arr t xs opn)=>match qda t te xs with
            | some zs => if s = sz te then
                ⟨q++[i+len≤zs.length],.val (.int .i64) ((Nat.min ys.length len:Nat):Int),[(b,.live (.arr te (setMany zs i (ys.take len)) opn))],qbj 0 H⟩ else .fail
            | none=>.fail
          | _=>.fail
        | _=>.fail
      | none=>.fail
    | false=>.fail
def qar:List Hs→List (Nat×Hs)→List Hs
 | H,[]=>H
 | H,p::up=>qar (H.set p.1 p.2) up
def qeu (want:Bool):AV→Option Bool
 | .val .bool x=>some (if want then x else !x)
 | .gd c v=>match qeu want v with
  | some b=>some (c && b)
  | none=>none
 | _=>none
def mark (c:Bool):AV:=.cons (.val .bool c) (.cons .nil .nil)
def qdc (T:List AV):AO→Option (List Prop×FuncId×Nat×List AV)
 | .call k f args=>some ((qgj (args.map (ev T))).1,f,k,(qgj (args.map (ev T))).2)
 | .callv k g args=>match (peel (ev T g)).2 with
  | .fn f caps=>if isL caps then some ((peel (ev T g)).1++(qgj (args.map (ev T))).1,fnF f,k,fnA f (qgj (args.map (ev T))).2 (ofAV caps)) else none
  | _=>none
 | _=>none
def q2a (c:Bool) (H:List Hs) (h0:Option Hs):Hs→Option Hs
 | .dead=>match h0 with
  | some (.live _)=>some .dead
  | _=>none
 | .live (.arr t xs opn)=>match h0 with
  | some .free=>some (.live (.arr t (cond c xs []) opn))
  | _=>none
 | .view b i f=>match h0,hget H b with
  | some .free,some (.nest ..)=>some (.view b i f)
  | _,_=>none
 | _=>none
def qjf (c:Bool):List Hs→List (Nat×Hs)→Option (List (Nat×Hs))
 | _,[]=>some []
 | H,p::up=>match q2a c H H[p.1]? p.2 with
  | some h=>match qjf c (H.set p.1 h) up with
   | some l=>some ((p.1,h)::l)
   | none=>none
  | none=>none
def hasN (x:Nat):List Nat→Bool
 | []=>false
 | y::l=>Nat.beq x y || hasN x l
def vwRd (rd:List Nat):List (Nat×Hs)→Bool
 | []=>true
 | p::l=>match p.2 with
  | .view b _ _=>hasN b rd && vwRd rd l
  | _=>vwRd rd l
def geff (sp:Spec) (base:Nat) (T:List AV) (H:List Hs) (o:AOp):Ef :=
 match o.g with
 | none=>aeff sp base T H o.op
 | some (d,want)=>match qeu want (T.getD d .undef) with
  | some c=>match (aeff sp base T H o.op).up with
   | []=>⟨impP (c=true) (aeff sp base T H o.op).ob,.gd c (aeff sp base T H o.op).v,[],(aeff sp base T H o.op).rd⟩
   | _=>match qdc T o.op with
    | some (p,f,k,args)=>⟨impP (c=true) p++(sp f H (base+k) (mark c::args)).ob,.gd c (sp f H (base+k) (mark c::args)).v,(sp f H (base+k) (mark c::args)).up,(sp f H (base+k) (mark c::args)).rd⟩
    | none=>match qjf c H (aeff sp base T H o.op).up with
     | some up=>match vwRd (aeff sp base T H o.op).rd up with
      | true=>⟨impP (c=true) (aeff sp base T H o.op).ob,.gd c (aeff sp base T H o.op).v,up,(aeff sp base T H o.op).rd⟩
      | false=>.fail
     | none=>.fail
  | none=>.fail
def setT (T:List AV):Option Nat→AV→List AV
 | none,_=>T
 | some d,v=>T.set d v
end
set_option linter.unusedVariables false
noncomputable section
def aggD:TypeDesc→Bool
 | .struct _=>true
 | .array _ _=>true
 | _=>false
def qwm (f:TypeId→Option Ty):List Field→Option Ty
 | []=>some .unit
 | x::xs=>match f x.type,qwm f xs with
  | some a,some b=>some (.prod a b)
  | _,_=>none
def tyOf (P:Program):Nat→TypeId→Option Ty
 | 0,_=>none
 | n+1,t=>match P.underlying t with
  | some (.int k)=>some (.int k)
  | some .bool=>some .bool
  | some (.slice e)=>match tyOf P n e with | some e=>some (.slice e) | none=>some .oth
  | some (.pointer e)=>match tyOf P n e with | some e=>some (.optr e) | none=>some .oth
  | some (.array l e)=>match tyOf P n e with | some e=>some (arrT l e) | none=>none
  | some (.struct fs)=>qwm (tyOf P n) fs.toList
  | some (.map k v)=>match tyOf P n k,tyOf P n v with | some k,some v=>some (.map k v) | _,_=>some .oth
  | some (.func ..)=>some .oth
  | _=>none
def tyS (P:Program) (t:TypeId):Option Ty :=
 match tyOf P 12 t,P.info? t,P.underlying t with
 | some ty,some i,some d=>if i.size=sz ty∧aggD d=isAgg ty then some ty else none
 | _,_,_=>none
def aggV:Value→Bool
 | .agg _=>true
 | _=>false
def qd7:(t:Ty)→List Value→Option (Den t)
 | .int k,cs=>match cs with
  | [.int k' n]=>if k=k' then some n else none
  | _=>none
 | .bool,cs=>match cs with
  | [.bool b]=>some b
  | _=>none
 | .unit,cs=>match cs with
  | []=>some ()
  | _=>none
 | .prod a b,cs=>match qd7 a (cs.take (sz a)),qd7 b (cs.drop (sz a)) with
  | some x,some y=>some (x,y)
  | _,_=>none
 | .slice _,cs=>match cs with
  | [.slice none 0 0]=>some []
  | _=>none
 | .optr _,cs=>match cs with
  | [.pointer none]=>some none
  | _=>none
 | .ptr _,_=>none
 | .map _ _,_=>none
 | .oth,_=>none
def qix:(t:Ty)→List Value→List AV
 | .unit,_=>[]
 | .prod a b,cs=>qix a (cs.take (sz a))++qix b (cs.drop (sz a))
 | .slice e,cs=>match cs with
  | [.slice none 0 0]=>[.opt true (.vsl e [] 0)]
  | _=>[.undef]
 | t,cs=>match qd7 t cs with
  | some x=>[.val t x]
  | none=>[.undef]
def qgl (ty:Option Ty):Value→Option AV
 | .int k n=>some (.val (.int k) n)
 | .bool b=>some (.val .bool b)
 | .slice none 0 0=>match ty with | some (.slice e)=>some (.opt true (.vsl e [] 0)) | _=>none
 | .pointer none=>match ty with | some (.optr e)=>some (.val (.optr e) none) | _=>none
 | .agg cs=>match ty with | some t=>if isAgg t then match qd7 t cs.toList with | some x=>some (.val t x) | none=>none else none | none=>none
 | _=>none
def cOd (ty:Option Ty):Operand→Option Od
 | .tmp t=>some (.t t)
 | .const v=>match qgl ty v with | some a=>some (.k a) | none=>none
 | .func f=>match Nat.ble 4096 f with | true=>none | false=>some (.k (.fn f .nil))
 | .global _=>none
def cOds:List (Option Ty)→List Operand→Option (List Od)
 | _,[]=>some []
 | tys,x::xs=>match cOd (tys.headD none) x,cOds tys.tail xs with
  | some a,some l=>some (a::l)
  | _,_=>none
def q6a:BinOp→Option BOp
 | .add=>some .add | .sub=>some .sub | .mul=>some .mul | .quo=>some .quo | .rem=>some .rem
 | .and=>some .and | .or=>some .or | .xor=>some .xor | .andNot=>some .andn | .shl=>some .shl | .shr=>some .shr
 | .eql=>some .eq | .neq=>some .ne | .lss=>some .lt | .leq=>some .le | .gtr=>some .gt | .geq=>some .ge
def eqFs (P:Program) (rec:TypeId→Ty→Bool):Nat→List Field→Ty→Bool
 | _,[],.unit=>true
 | off,f::fs,.prod a b=>match tyS P f.type,P.info? f.type,P.underlying f.type with
  | some te, some i, some d => decide (a = te) && rec f.type te && decide (i.size = sz te) && (aggD d == isAgg te) && decide (f.offset = off) && !(f.name == "_") && eqFs P rec (off + sz te) fs b
  | _,_,_=>false
 | _,_,_=>false
def eqT (P:Program):Nat→TypeId→Ty→Bool
 | 0,_,_=>false
 | n+1,t,ty=>match P.underlying t,ty with
  | some (.int k),.int k'=>k == k'
  | some .bool,.bool=>true
  | some (.array l e),ty=>match tyS P e,P.info? e,P.underlying e with
   | some te,some i,some d=>decide (ty=arrT l te) && eqT P n e te && decide (i.size=sz te) && (aggD d == isAgg te) && decide (0<l)
   | _,_,_=>false
  | some (.struct fs),ty=>!P.stoodInHeld t && eqFs P (eqT P n) 0 fs.toList ty
  | _,_=>false
def qmd:Operand→Option Int
 | .const (.int _ n)=>some n
 | _=>none
def qbr (P:Program) (f:FuncId):Bool :=
 match P.funcs[f]? with
 | some fn => !(fn.name == "runtime.NumGoroutine") && fn.body.isSome
 | none=>false
def qqh (P:Program) (fs:Array Field) (pl:Array (Nat×Nat)):List (Nat×Operand)→Option (List (Nat×Ty×Od))
 | []=>some []
 | (i,x)::ps=>match fs[i]?,pl[i]? with
  | some f,some (off,n)=>match tyS P f.type,qqh P fs pl ps with
   | some te,some l=>match cOd (some te) x with
    | some od=>if n=sz te then some ((off,te,od)::l) else none
    | none=>none
   | _,_=>none
  | _,_=>none
def qku (te:Ty):List (Nat×Operand)→Option (List (Nat×Ty×Od))
 | []=>some []
 | (i,x)::ps=>match cOd (some te) x,qku te ps with
  | some od,some l=>some ((i*sz te,te,od)::l)
  | _,_=>none
def qcn (te:Ty):Nat→List (Nat×Operand)→Option (List Od)
 | _,[]=>some []
 | n,(i,x)::ps=>match cOd (some te) x,qcn te (n+1) ps with
  | some od,some l=>if i=n then some (od::l) else none
  | _,_=>none
def qrr (t:Ty) (cs:List Value):Option Blk :=
 if isAgg t then
  match qd7 t cs with
  | some x=>qqb t (.val t x)
  | none=>none
 else some (.cells (qix t cs))
def qrp (m:Bool) (t:Ty) (cs:List Value):Option Blk:=match m with
 | true=>match qrr t cs with
  | some B=>q5b B
  | none=>none
 | false=>qrr t cs
def cOpt:Option Operand→Option (Option Od)
 | none=>some none
 | some x=>match cOd none x with | some o=>some (some o) | none=>none
def ze5:AO:=.bin .add (.k .undef) (.k .undef)
def q7m (ms:List Nat) (d:Nat) (ty:Ty):Option (Bool×Ty):=match ms.contains 900000 with
 | true=>match ty with
  | .slice te=>some (ms.contains (d+2000),te)
  | _=>none
 | false=>none
def bsOp (m:Bool) (k:Nat) (te:Ty) (l:List Od):AO:=match m,te,l with
 | true,.slice te',[]=>.nnest k te'
 | true,te,x::l'=>.bslicef k te (x::l')
 | _,te,l=>.bslice te l
def cOp (P:Program) (ms:List Nat) (o:Oper) (k:Nat):Option AO :=
 match o.op with
 | .move x | .assign x=>match cOd (tyS P o.type) x with | some x=>some (.mv x) | none=>none
 | .pick c a b=>match cOd none c,cOd none a,cOd none b with
  | some c,some a,some b=>some (.pick c a b)
  | _,_,_=>none
 | .binOp op xt x y _=>match cOd (tyS P xt) x,cOd (tyS P xt) y,P.underlying xt with
  | some x',some y',some (.int _)=>match q6a op with
   | some b=>some (.bin b x' y')
   | none=>none
  | some x',some y',some _=>match tyS P xt with
   | some ty=>if eqT P 12 xt ty && !(P.eqGuardType P.depth xt) then match op with
     | .eql=>some (.eqv false ty x' y')
     | .neq=>some (.eqv true ty x' y')
     | _=>none
    else match P.underlying xt,y with
     | some (.slice _),.const (.slice none 0 0)=>match op with
      | .eql=>some (.snil false (ms.contains 900001) x')
      | .neq=>some (.snil true (ms.contains 900001) x')
      | _=>none
     | _,_=>none
   | none=>none
  | _,_,_=>none
 | .unOp op _ x=>match op,cOd none x with
  | .not,some x=>some (.not x)
  | .neg,some x=>some (.neg x)
  | _,_=>none
 | .build t ps=>match tyS P t,P.info? t,P.underlying t with
  | some ty,some i,some (.struct fs)=>match i.zero,fs.toList.mapM (fun f=>(P.info? f.type).map fun i=>(f.offset,i.size)) with
   | some z,some pl=>match qqh P fs pl.toArray ps.toList with
    | some l=>if z.cells.size=sz ty∧isAgg ty=true∧z.cells.toList.all Value.oneCell'=true then some (.build ty (ms.contains (o.dst.getD 0+4000)) (qix ty z.cells.toList) l) else none
    | none=>none
   | _,_=>none
  | some ty,some i,some (.array n e)=>match i.zero,tyS P e with
   | some z,some te=>match qku te ps.toList with
    | some l=>if z.cells.size=sz ty∧isAgg ty=true∧z.cells.toList.all Value.oneCell'=true then some (.build ty (ms.contains (o.dst.getD 0+4000)) (qix ty z.cells.toList) l) else none
    | none=>none
   | _,_=>none
  | _,_,_=>none
 | .load t a=>match tyS P t,cOd none a with
  | some ty,some a=>match q7m ms (o.dst.getD 0) ty with
   | some (f,te)=>some (.loadh k f te a)
   | none=>some (.load ty a)
  | _,_=>none
 | .store t a x=>match tyS P t,cOd none a,cOd (tyS P t) x with | some ty,some a,some x=>some (.store ty a x) | _,_,_=>none
 | .alloc e=>match tyS P e,P.info? e with
  | some ty,some i=>match i.zero with
   | some z=>if z.cells.size=sz ty∧z.cells.toList.all Value.oneCell'=true then match qrp (ms.contains (o.dst.getD 0+5000)) ty z.cells.toList with | some B=>some (.alloc k B) | none=>none else none
   | none=>none
  | _,_=>none
 | .box e x=>match tyS P e,cOd (tyS P e) x with
  | some ty,some x=>(match ms.contains (o.dst.getD 0+5000) with
   | true=>some (.boxm k ty x)
   | false=>some (.box k ty x))
  | _,_=>none
 | .nilCheck x=>match cOd none x with | some x=>some (.nilc x) | none=>none
 | .fieldAddr s x f=>match P.underlying s,cOd none x with
  | some (.struct fs),some x=>match fs[f]? with
   | some fl=>match tyS P fl.type with
    | some te=>if 0<sz te then (match ms.contains (o.dst.getD 0+5000) with
     | true=>some (.flda fl.offset x)
     | false=>some (.fld fl.offset te x)) else none
    | none=>none
   | none=>none
  | _,_=>none
 | .field s x f=>match P.underlying s,cOd none x with
  | some (.struct fs),some x=>match fs[f]? with
   | some fl=>match tyS P fl.type with
    | some te=>some (.fldv fl.offset te x)
    | none=>none
   | none=>none
  | _,_=>none
 | .indexAddr t x i=>match P.underlying t,cOd none x,cOd none i with
  | some (.slice e),some x,some i=>match tyS P e with
   | some te=>some (.ixs te x i)
   | none=>none
  | some (.array n e),some x,some i'=>match tyS P e with
   | some te=>match qmd i with
    | some c=>if 0≤c∧c<(n:Int) then some (.fld (c.toNat*sz te) te x) else none
    | none=>some (.ixa n te x i')
   | none=>none
  | _,_,_=>none
 | .index t x i=>match P.underlying t,cOd none x,cOd none i with
  | some (.array n e),some x,some i'=>match tyS P e with
   | some te=>match qmd i with
    | some c=>if 0≤c∧c<(n:Int) then some (.fldv (c.toNat*sz te) te x) else none
    | none=>some (.ixv n te x i')
   | none=>none
  | _,_,_=>none
 | .slice t x lo hi mx=>match P.underlying t,cOd none x,cOpt lo,cOpt hi,cOpt mx with
  | some (.slice e),some x,some lo,some hi,some mx=>match tyS P e with
   | some te=>match ms.contains (o.dst.getD 0+1000) with
    | true=>match lo,hi,mx with
     | none,some hi,none=>some (.slct te x hi)
     | _,_,_=>none
    | false=>some (.slc te x lo hi mx)
   | none=>none
  | some (.array n e),some x,some lo,some hi,some none=>match tyS P e with
   | some te=>some (.sla n te x lo hi)
   | none=>none
  | _,_,_,_,_=>none
 | .extract x i=>match cOd none x with | some x=>some (.ext x i) | none=>none
 | .call c=>match c.callee with
  | .value (.func f)=>match cOds (c.argTypes.toList.map (tyS P)) c.args.toList with
   | some l=>if qbr P f then some (.call k f l) else none
   | none=>none
  | .value (.tmp g)=>match cOds (c.argTypes.toList.map (tyS P)) c.args.toList with
   | some l=>some (.callv k (.t g) l)
   | none=>none
  | .builtin .len=>match c.args.toList,c.argTypes.toList with
   | [x],[t]=>match P.underlying t,cOd none x with
    | some (.slice _),some x=>some (.len x)
    | some (.array n _),_=>some (.mv (.k (.val (.int .i64) (n:Int))))
    | _,_=>none
   | _,_=>none
  | .builtin .min=>match cOds [] c.args.toList with
   | some (x::xs)=>some (.mm false x xs)
   | _=>none
  | .builtin .max=>match cOds [] c.args.toList with
   | some (x::xs)=>some (.mm true x xs)
   | _=>none
  | .builtin .append=>match c.args.toList,c.argTypes.toList with
   | [x,y],[t,u]=>match P.underlying t,P.underlying u,cOd (tyS P t) x,cOd (tyS P u) y with
    | some (.slice e),some (.slice _),some x,some y=>match tyS P e,P.info? e with
     | some te,some i=>match i.zero with
      | some z=>if z.cells.size=sz te∧0<i.bytes∧0<sz te∧t=u then some (.append k te i.bytes x y) else none
      | none=>none
     | _,_=>none
    | _,_,_,_=>none
   | _,_=>none
  | .builtin .copy=>match c.args.toList,c.argTypes.toList with
   | [x,y],[t,u]=>match P.underlying t,P.underlying u,cOd (tyS P t) x,cOd (tyS P u) y with
    | some (.slice e),some (.slice _),some x,some y=>match tyS P e with
     | some te=>if 0<sz te then some (.cpy te x y) else none
     | none=>none
    | _,_,_,_=>none
   | _,_=>none
  | _=>none
 | .convert s d x=>match P.underlying s,P.underlying d,cOd (tyS P s) x with
  | some (.int _),some (.int k),some x=>some (.conv k x)
  | _,_,_=>none
 | .makeFunc (.func f) first caps=>if first.size=0∧Nat.ble 4096 f=false then match cOds [] caps.toList with | some l=>if qbr P f then some (.mkfn f l) else none | none=>none
  else if caps.size=0∧Nat.ble 4096 f=false then match cOds [] first.toList with | some l=>if qbr P f then some (.mkfn (4096+f) l) else none | none=>none else none
 | .buildSlice t n ps=>match P.underlying t with
  | some (.slice e)=>match tyS P e,P.info? e with
   | some te,some i=>match i.zero,qcn te 0 ps.toList with
    | some z,some l=>if l.length=n∧z.cells.size=sz te∧n*sz te≤1000000∧0<sz te then
      (if ms.contains (o.dst.getD 0) then some (.bslicem k te l) else some (bsOp (ms.contains (o.dst.getD 0+1000)) k te l)) else none
    | _,_=>none
   | _,_=>none
  | _=>none
 | .lookup t x i ok=>match P.underlying t,cOd none x with
  | some (.map kt vt),some x=>match tyS P kt,tyS P vt,P.info? vt with
   | some k,some v,some inf=>match cOd (some k) i,inf.zero with
    | some i,some z=>match qd7 v z.cells.toList with
     | some d=>if eqT P 12 kt k∧isAgg v=aggV z then some (.lookup k v d x i ok) else none
     | none=>none
    | _,_=>none
   | _,_,_=>none
  | _,_=>none
 | .mapUpdate t m x v | .insert t m x v=>match P.underlying t,cOd none m with
  | some (.map kt vt),some m=>match tyS P kt,tyS P vt with
   | some k,some vv=>match cOd (some k) x,cOd (some vv) v with
    | some x,some v=>if eqT P 12 kt k then some (.mapup k vv m x v) else none
    | _,_=>none
   | _,_=>none
  | _,_=>none
 | .makeMap t none=>match P.underlying t with
  | some (.map kt vt)=>match tyS P kt,tyS P vt with
   | some kt,some vt=>some (.mkmap k kt vt)
   | _,_=>none
  | _=>none
 | .makeSlice t n c=>match P.underlying t,cOd none n,cOd none c with
  | some (.slice e),some n,some c=>match tyS P e,P.info? e with
   | some te,some i=>match i.zero with
    | some z=>if z.cells.size=sz te∧0<i.bytes∧0<sz te then (match qd7 te z.cells.toList with | some x=>(match ms.contains (o.dst.getD 0+1000) with
     | true=>match te with
      | .slice te'=>some (.mknest k te' i.bytes n c)
      | _=>none
     | false=>if ms.contains (o.dst.getD 0) then some (.mkslicec k te x i.bytes n c) else some (.mkslice k te x i.bytes n c)) | none=>none) else none
    | none=>none
   | _,_=>none
  | _,_,_=>none
 | .panic _ | .makeInterface _ _=>some ze5
 | _=>none
def AO.na:AO→Nat
 | .alloc .. | .box .. | .boxm .. | .nnest .. | .bslicef .. | .bslicem .. | .append .. | .mkmap .. | .mkslice .. | .mkslicec .. | .loadh .. | .mknest ..=>1
 | .call .. | .callv ..=>4
 | _=>0
def qqm (all:Array Oper):Option (Nat×Bool)→Option (Option (Nat×Bool))
 | none=>some none
 | some (j,want)=>match (all[j]?).bind (·.dst) with
  | some d=>some (some (d,want))
  | none=>none
def cReg (P:Program) (ms:List Nat) (all:Array Oper):List Oper→Nat→Option (List AOp×Nat)
 | [],k=>some ([],k)
 | o::os,k=>match cOp P ms o k,qqm all o.guard with
  | some ao,some g=>match cReg P ms all os (k+ao.na) with
   | some (l,m)=>some (⟨o.dst,ao,g⟩::l,m)
   | none=>none
  | _,_=>none
def qgs (acc:List Nat):List Edge→Nat
 | []=>0
 | e::es=>if Region.binds .any e then (2 ^ e.on ||| acc.getD e.on 0) ||| qgs acc es else qgs acc es
def qcz:List Oper→List Nat→List Nat
 | [],acc=>acc
 | o::os,acc=>qcz os (acc++[qgs acc o.after.toList])
inductive AC where
 | skip
 | reg (m:Nat) (ops:List AOp) (ed:Option (List Nat))
 | seq (a b:AC)
 | ite (c:Od) (a b:AC)
 | blk (id:Nat) (a:AC)
 | loop (mask:List Nat) (a:AC)
 | exit (id:Nat)
 | ret
 | frz (j:Nat)
def q7n (id:Nat):List Nat→List Nat
 | []=>[]
 | m::ms=>match Nat.beq (m / 1000) (7000+id) with
  | true=>(m % 1000)::q7n id ms
  | false=>q7n id ms
def qsi (c:AC):List Nat→AC
 | []=>c
 | j::js=>.seq (.frz j) (qsi c js)
def qe5 (P:Program) (ms:List Nat):Code→List (List Nat)→Option (AC×List (List Nat))
 | .skip,lm=>some (.skip,lm)
 | .region id ops draw,lm=>match cReg P ms ops ops.toList 0 with
  | some (l,m)=>some (qsi (.reg m l (if draw then some (qcz ops.toList []) else none)) (q7n id ms),lm)
  | none=>none
 | .seq a b,lm=>match qe5 P ms a lm with
  | some (x,lm)=>match qe5 P ms b lm with
   | some (y,lm)=>some (.seq x y,lm)
   | none=>none
  | none=>none
 | .cond c a b,lm=>match cOd none c,qe5 P ms a lm with
  | some c,some (x,lm)=>match qe5 P ms b lm with
   | some (y,lm)=>some (.ite c x y,lm)
   | none=>none
  | _,_=>none
 | .block id a,lm=>match qe5 P ms a lm with
  | some (x,lm)=>some (.blk id x,lm)
  | none=>none
 | .loop a,lm=>match qe5 P ms a lm.tail with
  | some (x,lm')=>some (.loop (lm.headD []) x,lm')
  | none=>none
 | .exit id,lm=>some (.exit id,lm)
 | .label _,lm=>some (.skip,lm)
 | .scope a,lm=>qe5 P ms a lm
 | .ret,lm=>some (.ret,lm)
 | _,_=>none
end
def allP (l:List Prop):Prop:=∀ p∈l,p
theorem allP_nil:allP []:=fun _ h=>by cases h
theorem qa0 {p:Prop} {l:List Prop}:allP (p::l)↔p∧allP l:=List.forall_mem_cons
theorem qag {l m:List Prop}:allP (l++m)↔allP l∧allP m:=by
 simp only [allP,List.mem_append];exact ⟨fun h=>⟨fun p hp=>h p (.inl hp),fun p hp=>h p (.inr hp)⟩,fun h p hp=>hp.elim (h.1 p) (h.2 p)⟩
theorem allP_one {p:Prop}:allP [p]↔p:=by rw [qa0];exact ⟨fun h=>h.1,fun h=>⟨h,allP_nil⟩⟩
theorem qx6 {l:List Prop}:qot l↔allP l:=by
 induction l with
 | nil=>simp [qot,allP]
 | cons p l ih =>
  cases l with
  | nil=>simp only [qot,allP_one]
  | cons q l=>simp only [qot,ih,qa0]
theorem qe6 {c:Prop} {l:List Prop}:allP (impP c l)↔(c→allP l):=by
 cases l with
 | nil=>simp [impP,allP]
 | cons p l=>simp only [impP,allP_one,qx6]
theorem qat {t t':Ty} {x:Den t} {y:Den t'} (h:qa9 t t' x=some y):∃ e:t=t',y=e▸x:=by
 unfold qa9 at h;split at h
 ·rename_i e;cases h;exact ⟨e,rfl⟩
 ·cases h
theorem qbx {t t':Ty} {x:List (Den t)} {y:List (Den t')} (h:qda t t' x=some y):∃ e:t=t',y=e▸x:=by
 obtain ⟨e,he⟩:=qat (t:=.slice t) (t':=.slice t') h;cases e;exact ⟨rfl,he⟩
theorem qxt {w:World} {Γ:Cx} {b:Bool} {x:AV} {v:Value} (h:Ra w Γ (.opt b x) v) (hp:allP (optP b x).1):Ra w Γ (optP b x).2 v:=by
 simp only [Ra,Rp] at h;obtain ⟨_,h1,h2⟩:=h;unfold optP at hp ⊢;split
 ·cases b with
  | true =>
   have:=h1 rfl;simp only [wa0,and_true] at this;subst this;simp only [Ra,Rp];exact ⟨none,rfl,wad _,by simp,fun i x hx=>by simp at hx⟩
  | false=>exact (h2 rfl).1
 ·cases b with
  | true =>
   have:=h1 rfl;simp only [wa0,and_true] at this;subst this;simp only [Ra,Rp];refine ⟨_,rfl,[.slice none 0 0],?_,rfl⟩;simp only [RepC];exact ⟨none,0,rfl,wad _,fun _=>rfl,fun i x hx=>nomatch hx⟩
  | false=>exact (h2 rfl).1
 ·rename_i h3 h4;split at hp
  ·rename_i e;exact absurd rfl (h3 _)
  ·rename_i e;exact absurd rfl (h4 _ _)
  ·simp only [qa0] at hp;exact (h2 hp.1).1
theorem qah {w:World} {Γ:Cx}:∀ {x:AV} {v:Value},Ra w Γ x v→allP (peel x).1→Ra w Γ (peel x).2 v
 | .gd b x,v,h,hp=>by
  simp only [peel,qa0] at hp ⊢;simp only [Ra,Rp] at h;exact qah (h.2.1 hp.1) hp.2
 | .opt b x,v,h,hp=>by
  simp only [peel] at hp ⊢;exact qxt h hp
 | .undef,_,h,_=>h
 | .val ..,_,h,_=>h
 | .anyb ..,_,h,_=>h
 | .ref ..,_,h,_=>h
 | .sl ..,_,h,_=>h
 | .vsl ..,_,h,_=>h
 | .mref ..,_,h,_=>h
 | .fn ..,_,h,_=>h
 | .tup ..,_,h,_=>h
 | .agg ..,_,h,_=>h
 | .nil,_,h,_=>h
 | .cons ..,_,h,_=>h
section vals
variable {w:World} {Γ:Cx}
theorem Ra_val {t:Ty} {x:Den t} {v:Value}:Ra w Γ (.val t x) v↔RepV w Γ.I t x v:=by
 simp only [Ra,Rp];exact ⟨fun ⟨u,e,h⟩=>by cases e;exact h,fun h=>⟨v,rfl,h⟩⟩
theorem qcq {k:IntKind} {n:Den (.int k)} {v:Value}:Ra w Γ (.val (.int k) n) v↔v=.int k n:=by
 rw [Ra_val];simp only [RepV,RepC];exact ⟨fun ⟨cs,e,h⟩=>by subst e;exact h,fun h=>⟨_,rfl,h⟩⟩
theorem qcs {b:Den .bool} {v:Value}:Ra w Γ (.val .bool b) v↔v=.bool b:=by
 rw [Ra_val];simp only [RepV,RepC];exact ⟨fun ⟨cs,e,h⟩=>by subst e;exact h,fun h=>⟨_,rfl,h⟩⟩
theorem qbe {x:AV} {k:IntKind} {n:Int} {v:Value} (h:asInt x=some (k,n)) (hr:Ra w Γ x v):v=.int k n:=by
 unfold asInt at h;split at h
 ·cases h;exact qcq.1 hr
 ·cases h
theorem qgz {x:AV} {b:Bool} {v:Value} (h:asBool x=some b) (hr:Ra w Γ x v):v=.bool b:=by
 unfold asBool at h;split at h
 ·cases h;exact qcs.1 hr
 ·cases h
theorem qeb {t:Ty} {x:AV} {y:Den t} {v:Value} (h:asD t x=some y) (hr:Ra w Γ x v):RepV w Γ.I t y v:=by
 unfold asD at h;split at h
 ·obtain ⟨rfl,rfl⟩:=qat h;exact Ra_val.1 hr
 ·cases h
def qg8 (w:World) (I:Nat→Prop) (t:Ty) (xs:List (Den t)) (ad:Option Addr):Prop :=
 ∀ (i:Nat) (x:Den t),xs[i]?=some x→∃ b off cs,ad=some ⟨b,off,none⟩∧I b∧RepC w I t x cs∧qa1 w b (off+i*sz t) cs
theorem qb0 {t:Ty} {xs:List (Den t)} {v:Value} {I:Nat→Prop} :
  RepV w I (.slice t) xs v↔∃ ad cap,v=.slice ad xs.length cap∧xs.length≤cap∧(ad=none→cap=0)∧qg8 w I t xs ad:=by
 simp only [RepV,RepC,qg8];constructor
 ·rintro ⟨cs,⟨ad,cap,rfl,h1,h2,h3⟩,rfl⟩;exact ⟨ad,cap,rfl,h1,h2,h3⟩
 ·rintro ⟨ad,cap,rfl,h1,h2,h3⟩;exact ⟨_,⟨ad,cap,rfl,h1,h2,h3⟩,rfl⟩
theorem qj0 {t:Ty} {xs:List (Den t)} {c:Nat} {v:Value} :
  Ra w Γ (.vsl t xs c) v↔∃ ad,v=.slice ad xs.length c∧xs.length≤c∧(ad=none→c=0)∧qg8 w Γ.I t xs ad:=by
 simp only [Ra,Rp,qg8,wa0,and_true]
theorem qhb {t:Ty} {x:AV} {ys:List (Den t)} {v:Value} (h:qfw t x=some ys) (hr:Ra w Γ x v) :
  ∃ ad cap,v=.slice ad ys.length cap∧ys.length≤cap∧(ad=none→cap=0)∧qg8 w Γ.I t ys ad:=by
 match x,h,hr with
 | .val t' xs,h,hr =>
  obtain ⟨e,he⟩:=qat (t':=.slice t) h;subst e;subst he;exact qb0.1 (Ra_val.1 hr)
 | .vsl t' xs c,h,hr =>
  obtain ⟨e,he⟩:=qat (t:=.slice t') (t':=.slice t) h;cases e;subst he;obtain ⟨ad,h1,h2,h3,h4⟩:=qj0.1 hr;exact ⟨ad,c,h1,h2,h3,h4⟩
theorem qeh {t:Ty} {x:Den t} {v:Value} {I:Nat→Prop} :
  RepV w I (.ptr t) x v↔∃ b off c,v=.pointer (some ⟨b,off,none⟩)∧I b∧RepC w I t x c∧qa1 w b off c:=by
 simp only [RepV,RepC];constructor
 ·rintro ⟨cs,⟨b,off,c,rfl,h1,h2,h3⟩,rfl⟩;exact ⟨b,off,c,rfl,h1,h2,h3⟩
 ·rintro ⟨b,off,c,rfl,h1,h2,h3⟩;exact ⟨_,⟨b,off,c,rfl,h1,h2,h3⟩,rfl⟩
theorem qa1.app {b off:Nat} {c1 c2:List Value}:qa1 w b off (c1++c2)↔qa1 w b off c1∧qa1 w b (off+c1.length) c2:=by
 constructor
 ·intro h;refine ⟨fun j v hj=>h j v ?_,fun j v hj=>?_⟩
  ·have hlt:j<c1.length:=by
    rcases Nat.lt_or_ge j c1.length with h | h
    ·exact h
    ·rw [wac h] at hj;cases hj
   rw [waf hlt];exact hj
  ·have:=h (c1.length+j) v (by rw [wag (Nat.le_add_right _ _)];simpa using hj)
   rwa [← Nat.add_assoc] at this
 ·rintro ⟨h1,h2⟩ j v hj
  rcases Nat.lt_or_ge j c1.length with hlt | hge
  ·rw [waf hlt] at hj;exact h1 j v hj
  ·rw [wag hge] at hj;have:=h2 _ v hj
   rwa [Nat.add_assoc,Nat.add_sub_cancel' hge] at this
theorem qg5 {I:Nat→Prop} {te:Ty}:∀ (T:Ty) (off:Nat) (x:Den T) (y:Den te) (cs:List Value),sub T off te x=some y→RepC w I T x cs →
  RepC w I te y ((cs.drop off).take (sz te))∧off+sz te≤cs.length
 | .prod a b,off,x,y,cs,h,hc=>by
  rw [sub] at h;split at h
  ·rename_i e;obtain ⟨e1,e2⟩:=e;obtain ⟨e3,e4⟩:=qat h;subst e2;cases e3;cases e4;have hl:=RepC.length _ _ _ hc;rw [← hl];simpa using hc
  ·simp only [RepC] at hc;obtain ⟨c1,c2,rfl,h1,h2⟩:=hc;have hl:=RepC.length _ _ _ h1;split at h
   ·obtain ⟨g1,g2⟩:=qg5 a off x.1 y c1 h h1;refine ⟨?_,by simp;omega⟩
    rw [List.drop_append_of_le_length (by omega),List.take_append_of_le_length (by simp;omega)]
    exact g1
   ·rename_i hge;obtain ⟨g1,g2⟩:=qg5 b (off-sz a) x.2 y c2 h h2;refine ⟨?_,by simp;omega⟩
    rw [List.drop_append,List.drop_eq_nil_of_le (by omega),hl]
    simpa using g1
 | .int k,off,x,y,cs,h,hc=>by
  simp only [sub] at h;split at h
  ·obtain ⟨rfl,rfl⟩:=qat h;rename_i e;subst e;have hl:=RepC.length _ _ _ hc;rw [← hl];simpa using hc
  ·cases h
 | .bool,off,x,y,cs,h,hc=>by
  simp only [sub] at h;split at h
  ·obtain ⟨rfl,rfl⟩:=qat h;rename_i e;subst e;have hl:=RepC.length _ _ _ hc;rw [← hl];simpa using hc
  ·cases h
 | .unit,off,x,y,cs,h,hc=>by
  simp only [sub] at h;split at h
  ·obtain ⟨rfl,rfl⟩:=qat h;rename_i e;subst e;have hl:=RepC.length _ _ _ hc;rw [← hl];simpa using hc
  ·cases h
 | .slice e',off,x,y,cs,h,hc=>by
  simp only [sub] at h;split at h
  ·obtain ⟨rfl,rfl⟩:=qat h;rename_i e;subst e;have hl:=RepC.length _ _ _ hc;rw [← hl];simpa using hc
  ·cases h
 | .ptr e',off,x,y,cs,h,hc=>by
  simp only [sub] at h;split at h
  ·obtain ⟨rfl,rfl⟩:=qat h;rename_i e;subst e;have hl:=RepC.length _ _ _ hc;rw [← hl];simpa using hc
  ·cases h
 | .optr e',off,x,y,cs,h,hc=>by
  simp only [sub] at h;split at h
  ·obtain ⟨rfl,rfl⟩:=qat h;rename_i e;subst e;have hl:=RepC.length _ _ _ hc;rw [← hl];simpa using hc
  ·cases h
 | .map k' v',off,x,y,cs,h,hc=>by
  simp only [sub] at h;split at h
  ·obtain ⟨rfl,rfl⟩:=qat h;rename_i e;subst e;have hl:=RepC.length _ _ _ hc;rw [← hl];simpa using hc
  ·cases h
 | .oth,off,x,y,cs,h,hc=>by simp only [RepC] at hc
theorem qgt {I:Nat→Prop} {te:Ty}:∀ (n:Nat) (x:Den (arrT n te)) (i:Nat) (cs:List Value),RepC w I (arrT n te) x cs→i<n →
  RepC w I te (qgv n te x i) ((cs.drop (i*sz te)).take (sz te))∧i*sz te+sz te≤cs.length
 | 0,_,i,_,_,h=>by omega
 | n+1,x,0,cs,h,_=>by
  simp only [arrT,RepC] at h;obtain ⟨c1,c2,rfl,h1,h2⟩:=h;have hl:=RepC.length _ _ _ h1;simp only [qgv];refine ⟨?_,by simp;omega⟩
  simpa [← hl] using h1
 | n+1,x,i+1,cs,h,hi=>by
  simp only [arrT,RepC] at h;obtain ⟨c1,c2,rfl,h1,h2⟩:=h;have hl:=RepC.length _ _ _ h1;simp only [qgv];obtain ⟨g1,g2⟩:=qgt n x.2 i c2 h2 (by omega)
  have e:(i+1)*sz te-c1.length=i*sz te:=by rw [Nat.succ_mul,hl];omega
  have e2:c1.length≤(i+1)*sz te:=by rw [Nat.succ_mul,hl];omega
  refine ⟨?_,by rw [Nat.succ_mul];simp;omega⟩
  rw [List.drop_append,List.drop_eq_nil_of_le e2,e];simpa using g1
theorem qa1.part {b off:Nat} {cs:List Value} (h:qa1 w b off cs) (i n:Nat):qa1 w b (off+i) ((cs.drop i).take n):=by
 intro j v hj;have h1:(cs.drop i)[j]?=some v:=by
  rw [wat] at hj;split at hj
  ·exact hj
  ·cases hj
 rw [wbl] at h1;have:=h (i+j) v h1
 rwa [← Nat.add_assoc] at this
theorem qf9 {I:Nat→Prop} {te:Ty}:∀ (n:Nat) (x:Den (arrT n te)) (cs:List Value),RepC w I (arrT n te) x cs →
  (qed n te x).length=n∧∀ (i:Nat) (y:Den te),(qed n te x)[i]?=some y→RepC w I te y ((cs.drop (i*sz te)).take (sz te))
 | 0,_,_,_=>⟨rfl,fun i y h=>by simp [qed] at h⟩
 | n+1,x,cs,h=>by
  simp only [arrT,RepC] at h;obtain ⟨c1,c2,rfl,h1,h2⟩:=h;have hl:=RepC.length _ _ _ h1;obtain ⟨g1,g2⟩:=qf9 n x.2 c2 h2;refine ⟨by simp [qed,g1],fun i y hy=>?_⟩
  cases i with
  | zero =>
   simp only [qed,wa6,waz] at hy;subst hy;simpa [← hl] using h1
  | succ i =>
   simp only [qed,wa4] at hy;have e:(i+1)*sz te-c1.length=i*sz te:=by rw [Nat.succ_mul,hl];omega
   have e2:c1.length≤(i+1)*sz te:=by rw [Nat.succ_mul,hl];omega
   rw [List.drop_append,List.drop_eq_nil_of_le e2,e];simpa using g2 i y hy
end vals
theorem qm0 {T:List AV} {n:Nat}:T.getD n .undef=(T[n]?).getD .undef:=by simp [List.getD]
theorem qsk {Γ:Cx} {S:St} {a:Act} {w:World} (e:Emb Γ S a w) (t:Nat):Ra w Γ (S.T.getD t .undef) (a.tmps.getD t undef):=by
 rw [waa]
 cases h:S.T[t]? with
 | some x =>
  obtain ⟨v,hv,hr⟩:=e.tmp t x h;simp only [Array.getD_eq_getD_getElem?,hv,Option.getD_some];exact hr
 | none=>simp only [Option.getD_none,Ra,Rp];exact ⟨_,rfl⟩
theorem qcx {w:World} {I:Nat→Prop}:∀ (t:Ty) (cs:List Value) (x:Den t),qd7 t cs=some x→RepC w I t x cs
 | .int k,cs,x,h=>by
  simp only [qd7] at h;split at h
  ·split at h
   ·cases h;rename_i h;subst h;simp only [RepC]
   ·cases h
  ·cases h
 | .bool,cs,x,h=>by
  simp only [qd7] at h;split at h
  ·cases h;simp only [RepC]
  ·cases h
 | .unit,cs,x,h=>by
  simp only [qd7] at h;split at h
  ·simp only [RepC]
  ·cases h
 | .prod a b,cs,x,h=>by
  rw [qd7] at h
  cases h1:qd7 a (cs.take (sz a)) with
  | none=>rw [h1] at h;cases h
  | some y=>cases h2:qd7 b (cs.drop (sz a)) with
   | none=>rw [h1,h2] at h;cases h
   | some z =>
    rw [h1,h2] at h;cases h;simp only [RepC];exact ⟨_,_,(List.take_append_drop _ _).symm,qcx a _ _ h1,qcx b _ _ h2⟩
 | .slice e,cs,x,h=>by
  simp only [qd7] at h;split at h
  ·cases h;simp only [RepC];exact ⟨none,0,rfl,wad _,fun _=>rfl,fun i x hx=>by simp [nth] at hx⟩
  ·cases h
 | .ptr e,cs,x,h=>by simp only [qd7] at h;cases h
 | .optr e,cs,x,h=>by
  simp only [qd7] at h;split at h
  ·cases h;simp only [RepC];exact .inl ⟨rfl,trivial⟩
  ·cases h
 | .map k v,cs,x,h=>by simp only [qd7] at h;cases h
 | .oth,cs,x,h=>by simp only [qd7] at h;cases h
theorem Cx.O_congr {Γ Γ':Cx} {b c:Nat} (h:Γ'.R b=Γ.R c) {n:Nat}:Γ'.O b n↔Γ.O c n:=by simp only [Cx.O,h]
theorem Rows.of {Γ Γ':Cx} {H H':List Hs} {w w':World} (r:Rows Γ H w) (hn0:∀ b,Nest H' b→(Nest H b∧Γ'.R b=Γ.R b)∨∀ i,(Γ'.R b i).2=0)
  (hl:∀ b,Live H' b→Γ'.κ b≠0→(∃ c,Live H c∧Γ.κ c≠0∧Γ.ν c=Γ'.ν b)∨w.heap.size≤Γ'.ν b)
  (hi:∀ n,Γ'.I n→Γ.I n∨(∃ c,Live H c∧Γ.κ c≠0∧Γ.ν c=n)∨w.heap.size≤n) (hs:w.heap.size≤w'.heap.size):Rows Γ' H' w':=by
 have hn:∀ b n,Nest H' b→Γ'.O b n→Nest H b∧Γ'.R b=Γ.R b:=fun b n h ⟨i,h1,h2⟩=>(hn0 b h).resolve_right fun h0=>h1 (h0 i)
 exact ⟨fun b b' n h h' ho ho'=>by
  obtain ⟨h1,h2⟩:=hn b n h ho;obtain ⟨g1,g2⟩:=hn b' n h' ho';exact r.dis b b' n h1 g1 ((Cx.O_congr h2).1 ho) ((Cx.O_congr g2).1 ho'),fun b b' n h h' hk ho he=>by
  obtain ⟨h1,h2⟩:=hn b n h ho;have h2:=(Cx.O_congr h2).1 ho
  rcases hl b' h' hk with ⟨c,g1,g2,g3⟩ | g
  ·exact r.main b c n h1 g1 g2 h2 (g3.trans he)
  ·have:=r.lt b n h1 h2;omega,fun b n h ho hI=>by
  obtain ⟨h1,h2⟩:=hn b n h ho;have h2:=(Cx.O_congr h2).1 ho
  rcases hi n hI with g | ⟨c,g1,g2,g3⟩ | g
  ·exact r.imm b n h1 h2 g
  ·exact r.main b c n h1 g1 g2 h2 g3
  ·have:=r.lt b n h1 h2;omega,fun b n h ho=>by
  obtain ⟨h1,h2⟩:=hn b n h ho;exact Nat.lt_of_lt_of_le (r.lt b n h1 ((Cx.O_congr h2).1 ho)) hs,fun b i i' h h1 h2 h3=>by
  obtain ⟨g1,g2⟩:=hn b _ h ⟨i,h1,rfl⟩;rw [g2] at h1 h2 h3;exact r.one b i i' g1 h1 h2 h3⟩
theorem Rows.sub {Γ:Cx} {H H':List Hs} {w w':World} (r:Rows Γ H w) {I:Nat→Prop} (hH:∀ (b:Nat) (B:Blk),H'[b]?=some (.live B)→H[b]?=some (.live B)) (hi:∀ n,I n→Γ.I n∨w.heap.size≤n) (hs:w.heap.size≤w'.heap.size):Rows { Γ with I:=I } H' w' :=
 r.of (fun b ⟨t,rw,o,h⟩=>.inl ⟨⟨t,rw,o,hH _ _ h⟩,rfl⟩) (fun b ⟨B,h⟩ hk=>.inl ⟨b,⟨B,hH _ _ h⟩,hk,rfl⟩) (fun n hn=>(hi n hn).imp id .inr) hs
theorem Wr.sub {Γ:Cx} {H H':List Hs} {n:Nat} (hH:∀ (b:Nat) (B:Blk),H'[b]?=some (.live B)→H[b]?=some (.live B)) (h:Wr Γ H' n):Wr Γ H n:=by
 rcases h with ⟨b,⟨B,hb⟩,hk,he⟩ | ⟨b,⟨t,r,o,hb⟩,hn⟩
 ·exact .inl ⟨b,⟨B,hH _ _ hb⟩,hk,he⟩
 ·exact .inr ⟨b,⟨t,r,o,hH _ _ hb⟩,hn⟩
theorem Rows.nil {Γ:Cx} {H:List Hs} {w:World} (h:∀ b,¬ Nest H b):Rows Γ H w :=
 ⟨fun b _ _ hb=>absurd hb (h b),fun b _ _ hb=>absurd hb (h b),fun b _ hb=>absurd hb (h b),fun b _ hb=>absurd hb (h b),fun b _ _ hb=>absurd hb (h b)⟩
theorem ql7 {b:Nat}:¬ Nest [] b:=fun ⟨_,_,_,h⟩=>by simp at h
theorem EmbH.step {Γ Γ':Cx} {H H':List Hs} {w w':World} (e:EmbH Γ H w) (X:Nat→Prop) (hI:Γ'.I=Γ.I)
  (hAl:∀ b,Γ.A b→Γ'.A b∧Γ'.ν b=Γ.ν b∧Γ'.κ b=Γ.κ b)
  (hA':∀ b,Γ'.A b↔∃ h,H'[b]?=some h∧h≠.free)
  (hX:∀ n,n<w.heap.size→¬ X n→w'.heap[n]?=w.heap[n]?) (hXw:∀ n,X n→Wr Γ H n∨w.heap.size≤n)
  (hblk:∀ b B,H'[b]?=some (.live B)→(RepB w' Γ' b B∧(Γ'.κ b≠0→Wr Γ H (Γ'.ν b)∨w.heap.size≤Γ'.ν b))∨(H[b]?=some (.live B)∧(Γ.κ b≠0→¬ X (Γ.ν b))∧(Nest H b→Γ'.R b=Γ.R b∧∀ n,Γ.O b n→¬ X n)))
  (hinj:∀ b b',Live H' b→Live H' b'→Γ'.κ b≠0→Γ'.κ b'≠0→Γ'.ν b=Γ'.ν b'→b=b')
  (hrows:Rows Γ' H' w') (hOw:∀ b n,Nest H' b→Γ'.O b n→Wr Γ H n∨w.heap.size≤n)
  (hvw:∀ m b i f,H'[m]?=some (.view b i f)→Γ'.A b∧VwOk Γ' H' m b i)
  (hs:w.heap.size≤w'.heap.size) (ho:w'.os=w.os) (hout:w'.output=w.output) :
  EmbH Γ' H' w'∧Ext Γ H w Γ' H' w':=by
 have hWI:∀ n,Wr Γ H n→¬ Γ.I n:=fun n hn hi=>by
  rcases hn with ⟨c,hc,hk,rfl⟩ | ⟨c,hc,hn⟩
  ·exact e.imm c hc hk hi
  ·exact e.rows.imm c n hc hn hi
 have hIk:∀ b,Γ.I b→w'.heap[b]?=w.heap[b]?:=fun b hb=>hX b (e.old b hb) fun hx=>by
  rcases hXw b hx with hc | hge
  ·exact hWI b hc hb
  ·have:=e.old b hb;omega
 have hmono:∀ b,Γ.I b→Γ'.I b:=fun b hb=>by rw [hI];exact hb
 have hwr:∀ b,Live H' b→Γ'.κ b≠0→Wr Γ H (Γ'.ν b)∨w.heap.size≤Γ'.ν b:=fun b hb hk=>by
  obtain ⟨B,hB⟩:=hb
  rcases hblk b B hB with h | ⟨h,_⟩
  ·exact h.2 hk
  ·left;obtain ⟨_,k1,k2⟩:=hAl b (e.alive ⟨B,h⟩);exact .inl ⟨b,⟨B,h⟩,by rw [← k2];exact hk,k1.symm⟩
 refine ⟨⟨fun b B hB=>?_,hinj,fun b hb hk hi=>?_,fun n hn=>?_,hA',hrows,hvw⟩,⟨fun n hn hnw=>?_,hs,ho,hout,fun n hn=>?_,fun n hn=>?_,hmono,hAl⟩⟩
 ·rcases hblk b B hB with h | ⟨h,hx⟩
  ·exact h.1
  ·have hal:=e.alive ⟨B,h⟩;refine RepB.mono hmono hIk hAl hal (fun hk=>hX _ (e.lt ⟨B,h⟩ hk) (hx.1 hk)) (fun t rows outs hB=>?_) (e.blk b B h)
   have hne:Nest H b:=⟨t,rows,outs,hB▸h⟩;obtain ⟨q1,q2⟩:=hx.2 hne;exact ⟨q1,fun n hn=>hX n (e.rows.lt b n hne hn) (q2 n hn)⟩
 ·rw [hI] at hi
  rcases hwr b hb hk with hc | h
  ·exact hWI _ hc hi
  ·have:=e.old _ hi;omega
 ·rw [hI] at hn;exact Nat.lt_of_lt_of_le (e.old n hn) hs
 ·exact hX n hn fun hx=>by
   rcases hXw n hx with h | h
   ·exact hnw h
   ·omega
 ·rcases hn with ⟨b,hb,hk,rfl⟩ | ⟨b,hb,hn⟩
  ·exact hwr b hb hk
  ·exact hOw b n hb hn
 ·rw [hI] at hn;exact .inl hn
theorem qr3 {H:List Hs} {k b:Nat} {x:Hs} (hx:∀ t r o,x≠.live (.nest t r o)) (h:Nest (H.set k x) b):b≠k∧Nest H b:=by
 obtain ⟨t,r,o,h⟩:=h
 by_cases hb:k=b
 ·subst hb;rw [waw] at h;simp only [if_true] at h;split at h
  ·cases h;exact absurd rfl (hx t r o)
  ·cases h
 ·rw [wah hb] at h;exact ⟨fun h=>hb h.symm,t,r,o,h⟩
theorem qav {H:List Hs} {k b:Nat} {x:Hs} {B:Blk} (h:(H.set k x)[b]?=some (.live B)):(b=k∧x=.live B)∨(b≠k∧H[b]?=some (.live B)):=by
 by_cases hb:k=b
 ·subst hb;rw [waw] at h;simp only [if_true] at h;split at h
  ·cases h;exact .inl ⟨rfl,rfl⟩
  ·cases h
 ·rw [wah hb] at h;exact .inr ⟨fun h=>hb h.symm,h⟩
def upd {α:Type} (f:Nat→α) (k:Nat) (v:α):Nat→α:=fun n=>if n=k then v else f n
theorem qas {α:Type} {f:Nat→α} {k:Nat} {v:α}:upd f k v k=v:=by simp [upd]
theorem qa6 {α:Type} {f:Nat→α} {k:Nat} {v:α} {n:Nat} (h:n≠k):upd f k v n=f n:=by simp [upd,h]
def Cx.new (Γ:Cx) (k n c:Nat):Cx:={ Γ with A:=fun b=>Γ.A b∨b=k,ν:=upd Γ.ν k n,κ:=upd Γ.κ k c,R:=upd Γ.R k (fun _=>(0,0)) }
theorem qdw {Γ:Cx} {H:List Hs} {w:World} (e:EmbH Γ H w) {k:Nat} (hk:H[k]?=some .free):¬ Γ.A k:=fun h=>by
 obtain ⟨x,hx,hn⟩:=(e.al k).1 h;rw [hk] at hx;cases hx;exact hn rfl
theorem qie {Γ:Cx} {H:List Hs} {w:World} (e:EmbH Γ H w) {k n c:Nat} (hk:H[k]?=some .free) :
  ∀ b,Γ.A b→(Γ.new k n c).A b∧(Γ.new k n c).ν b=Γ.ν b∧(Γ.new k n c).κ b=Γ.κ b:=fun b hb=>by
 have hne:b≠k:=fun h=>qdw e hk (h▸hb)
 exact ⟨.inl hb,qa6 hne,qa6 hne⟩
theorem qb3 {H:List Hs} {k b:Nat} {x y:Hs} (h:(H.set k x)[b]?=some y):(b=k∧x=y)∨(b≠k∧H[b]?=some y):=by
 by_cases hb:k=b
 ·subst hb;rw [waw] at h;simp only [if_true] at h;split at h
  ·cases h;exact .inl ⟨rfl,rfl⟩
  ·cases h
 ·rw [wah hb] at h;exact .inr ⟨fun h=>hb h.symm,h⟩
theorem EmbH.vwA {Γ:Cx} {H:List Hs} {w:World} (e:EmbH Γ H w) {m b i:Nat} {f:Bool} (h:H[m]?=some (.view b i f)):Γ.A m∧Γ.A b∧VwOk Γ H m b i :=
 ⟨(e.al m).2 ⟨_,h,by simp⟩,e.vw m b i f h⟩
theorem EmbH.vw_keep {Γ Γ':Cx} {H H':List Hs} {w:World} (e:EmbH Γ H w) (hAl:∀ b,Γ.A b→Γ'.A b∧Γ'.ν b=Γ.ν b∧Γ'.κ b=Γ.κ b)
  (hv:∀ (m b i:Nat) (f:Bool),H'[m]?=some (.view b i f)→H[m]?=some (.view b i f))
  (hn:∀ b t rows ho,Γ.A b→H'[b]?=some (.live (.nest t rows ho))→Γ'.R b=Γ.R b∧∃ t rows0 ho,H[b]?=some (.live (.nest t rows0 ho))∧rows.length≤rows0.length) :
  ∀ m b i f,H'[m]?=some (.view b i f)→Γ'.A b∧VwOk Γ' H' m b i:=fun m b i f hm=>by
 obtain ⟨h1,h2,h3⟩:=e.vwA (hv m b i f hm);refine ⟨(hAl b h2).1,fun t rows ho hb hi=>?_⟩
 obtain ⟨g1,t0,rows0,ho0,g2,g3⟩:=hn b t rows ho h2 hb;obtain ⟨_,q1,q2⟩:=hAl m h1;rw [q1,q2,g1];exact h3 t0 rows0 ho0 g2 (by omega)
theorem qbp {H:List Hs} {k:Nat} (h:qay H k=true):H[k]?=some .free:=by
 unfold qay at h;split at h
 ·rename_i hk;exact hk
 ·cases h
theorem qaw {H:List Hs} {b:Nat} {B:Blk} (h:hget H b=some B):H[b]?=some (.live B):=by
 unfold hget at h;split at h
 ·rename_i B' hB;cases h;exact hB
 ·cases h
theorem qbf {H:List Hs} {k:Nat} {x:Hs} (h:H[k]?=some x):k<H.length:=by
 rcases Nat.lt_or_ge k H.length with h' | h'
 ·exact h'
 ·rw [wac h'] at h;cases h
theorem q7b {Γ:Cx} {H:List Hs} {w:World} (e:EmbH Γ H w) {k n c:Nat} {B:Blk} (hk:H[k]?=some .free) (b:Nat) :
  (Γ.new k n c).A b↔∃ h,(H.set k (.live B))[b]?=some h∧h≠.free:=by
 simp only [Cx.new]
 by_cases hb:k=b
 ·subst hb;rw [waw];simp [qbf hk]
 ·rw [wah hb,e.al];exact ⟨fun h=>h.resolve_right (fun h=>hb h.symm),.inl⟩
theorem qjp {H:List Hs} {b:Nat} {B:Blk} {x:Hs} (hb:H[b]?=some (.live B)) (hx:x≠.free) (c:Nat) :
  (∃ h,H[c]?=some h∧h≠.free)↔∃ h,(H.set b x)[c]?=some h∧h≠.free:=by
 by_cases hbc:b=c
 ·subst hbc;rw [waw];simp only [if_true,qbf hb];exact ⟨fun _=>⟨x,rfl,hx⟩,fun _=>⟨_,hb,by simp⟩⟩
 ·rw [wah hbc]
theorem EmbH.alloc {Γ:Cx} {H:List Hs} {w w':World} (e:EmbH Γ H w) {k c:Nat} {B:Blk} (hk:H[k]?=some .free)
  (hold:∀ n,n<w.heap.size→w'.heap[n]?=w.heap[n]?) (hs:w.heap.size≤w'.heap.size) (ho:w'.os=w.os) (hout:w'.output=w.output)
  (hB:RepB w' (Γ.new k w.heap.size c) k B) :
  EmbH (Γ.new k w.heap.size c) (H.set k (.live B)) w'∧Ext Γ H w (Γ.new k w.heap.size c) (H.set k (.live B)) w':=by
 have hkn:∀ b,Live H b→b≠k:=fun b ⟨B',h⟩ he=>by subst he;rw [hk] at h;cases h
 have hkA:=qdw e hk;have hN:∀ b,Nest (H.set k (.live B)) b→(Nest H b∧(Γ.new k w.heap.size c).R b=Γ.R b)∨∀ i,((Γ.new k w.heap.size c).R b i).2=0:=fun b h=>by
  by_cases hb:b=k
  ·subst hb;exact .inr fun i=>by simp only [Cx.new,qas]
  ·obtain ⟨t,r,o,h⟩:=h
   rcases qav h with ⟨h,_⟩ | ⟨_,h⟩
   ·exact absurd h hb
   ·exact .inl ⟨⟨t,r,o,h⟩,qa6 hb⟩
 refine e.step (fun _=>False) rfl (qie e hk) (q7b e hk) (fun n hn _=>hold n hn) (fun _ h=>h.elim) (fun b B' hb=>?_) (fun b b' hb hb' hkb hkb' heq=>?_)
  (e.rows.of hN (fun b hb hkb=>?_) (fun n hn=>.inl hn) hs) (fun b n hb ⟨i,h1,h2⟩=>?_)
  (e.vw_keep (qie e hk) (fun m b i f hm=>?_) fun b t rows ho hA hb=>?_) hs ho hout
 ·rcases qav hb with ⟨rfl,h⟩ | ⟨hne,h⟩
  ·cases h;exact .inl ⟨hB,fun _=>.inr (by simp [Cx.new,upd])⟩
  ·exact .inr ⟨h,fun _=>id,fun _=>⟨qa6 hne,fun _ _=>id⟩⟩
 ·obtain ⟨B1,h1⟩:=hb;obtain ⟨B2,h2⟩:=hb'
  rcases qav h1 with ⟨rfl,_⟩ | ⟨n1,g1⟩<;>rcases qav h2 with ⟨rfl,_⟩ | ⟨n2,g2⟩
  ·rfl
  ·simp only [Cx.new,qas,qa6 n2] at heq hkb';have:=e.lt ⟨B2,g2⟩ hkb';omega
  ·simp only [Cx.new,qas,qa6 n1] at heq hkb;have:=e.lt ⟨B1,g1⟩ hkb;omega
  ·simp only [Cx.new,qa6 n1,qa6 n2] at heq hkb hkb';exact e.inj _ _ ⟨B1,g1⟩ ⟨B2,g2⟩ hkb hkb' heq
 ·obtain ⟨B1,h1⟩:=hb
  rcases qav h1 with ⟨rfl,_⟩ | ⟨n1,g1⟩
  ·exact .inr (by simp [Cx.new,upd])
  ·simp only [Cx.new,qa6 n1] at hkb ⊢;exact .inl ⟨b,⟨B1,g1⟩,hkb,rfl⟩
 ·rcases hN b hb with ⟨g1,g2⟩ | g
  ·exact .inl (.inr ⟨b,g1,(Cx.O_congr g2).1 ⟨i,h1,h2⟩⟩)
  ·exact absurd (g i) h1
 ·rcases qb3 hm with ⟨_,h⟩ | ⟨_,h⟩
  ·cases h
  ·exact h
 ·have hne:b≠k:=fun h=>hkA (h▸hA)
  rcases qav hb with ⟨h,_⟩ | ⟨_,h⟩
  ·exact absurd h hne
  ·exact ⟨qa6 hne,t,rows,ho,h,wad _⟩
theorem EmbH.write {Γ:Cx} {H:List Hs} {w w':World} (e:EmbH Γ H w) {b:Nat} {B B':Blk} (hb:H[b]?=some (.live B)) (hkb:Γ.κ b≠0)
  (hold:∀ n,n≠Γ.ν b→w'.heap[n]?=w.heap[n]?) (hs:w.heap.size≤w'.heap.size) (ho:w'.os=w.os) (hout:w'.output=w.output)
  (hB:RepB w' Γ b B') (hnn:∀ t r o,B'=.nest t r o→∃ t r0 o,B=.nest t r0 o∧r.length≤r0.length:=by intro _ _ _ h;cases h) :
  EmbH Γ (H.set b (.live B')) w'∧Ext Γ H w Γ (H.set b (.live B')) w':=by
 have hl:∀ d,Live (H.set b (.live B')) d→Live H d:=fun d ⟨B1,h⟩=>by
  rcases qav h with ⟨rfl,_⟩ | ⟨_,h⟩
  ·exact ⟨B,hb⟩
  ·exact ⟨_,h⟩
 have hN:∀ c,Nest (H.set b (.live B')) c→Nest H c:=fun c ⟨t,r,o,h⟩=>by
  rcases qav h with ⟨rfl,h2⟩ | ⟨_,h⟩
  ·cases h2;obtain ⟨t',r',o',rfl,_⟩:=hnn t r o rfl;exact ⟨t',r',o',hb⟩
  ·exact ⟨t,r,o,h⟩
 refine e.step (fun n=>n=Γ.ν b) rfl (fun _ h=>⟨h,rfl,rfl⟩) (fun c=>?_) (fun n _ hx=>hold n hx) (fun n hx=>.inl (.inl ⟨b,⟨B,hb⟩,hkb,hx.symm⟩)) (fun c B1 hc=>?_) (fun c c' hc hc' hkc hkc' heq=>e.inj _ _ (hl _ hc) (hl _ hc') hkc hkc' heq)
  (e.rows.of (fun c hc=>.inl ⟨hN c hc,rfl⟩) (fun c hc hk=>.inl ⟨c,hl c hc,hk,rfl⟩) (fun n hn=>.inl hn) hs) (fun c n hc ho=>.inl (.inr ⟨c,hN c hc,ho⟩))
  (e.vw_keep (fun _ h=>⟨h,rfl,rfl⟩) (fun m c i f hm=>?_) fun c t rows ho hA hc=>⟨rfl,?_⟩) hs ho hout
 ·rw [e.al];exact qjp hb (by simp) c
 ·rcases qav hc with ⟨rfl,h⟩ | ⟨hne,h⟩
  ·cases h;exact .inl ⟨hB,fun _=>.inl (.inl ⟨c,⟨B,hb⟩,hkb,rfl⟩)⟩
  ·exact .inr ⟨h,fun hk hx=>hne (e.inj _ _ ⟨_,h⟩ ⟨_,hb⟩ hk hkb hx),fun hn=>⟨rfl,fun n ho hx=>e.rows.main c b n hn ⟨_,hb⟩ hkb ho hx.symm⟩⟩
 ·rcases qb3 hm with ⟨_,h⟩ | ⟨_,h⟩
  ·cases h
  ·exact h
 ·rcases qav hc with ⟨rfl,h2⟩ | ⟨_,h⟩
  ·cases h2;obtain ⟨t',r',o',rfl,hle⟩:=hnn t rows ho rfl;exact ⟨t',r',o',hb,hle⟩
  ·exact ⟨t,rows,ho,h,wad _⟩
theorem EmbH.kill {Γ:Cx} {H:List Hs} {w:World} (e:EmbH Γ H w) {b:Nat} {B:Blk} (hb:H[b]?=some (.live B)) :
  EmbH Γ (H.set b .dead) w∧Ext Γ H w Γ (H.set b .dead) w:=by
 have hl:∀ d,Live (H.set b .dead) d→Live H d:=fun d ⟨B1,h⟩=>by
  rcases qav h with ⟨_,h'⟩ | ⟨_,h'⟩
  ·cases h'
  ·exact ⟨_,h'⟩
 have hN:∀ c,Nest (H.set b .dead) c→Nest H c:=fun c h=>(qr3 (by intro _ _ _ h;cases h) h).2
 refine e.step (fun _=>False) rfl (fun _ h=>⟨h,rfl,rfl⟩) (fun c=>?_) (fun n _ _=>rfl) (fun n hx=>hx.elim) (fun c B1 hc=>?_) (fun c c' hc hc' hkc hkc' heq=>e.inj _ _ (hl _ hc) (hl _ hc') hkc hkc' heq)
  (e.rows.of (fun c hc=>.inl ⟨hN c hc,rfl⟩) (fun c hc hk=>.inl ⟨c,hl c hc,hk,rfl⟩) (fun n hn=>.inl hn) (wad _)) (fun c n hc ho=>.inl (.inr ⟨c,hN c hc,ho⟩))
  (e.vw_keep (fun _ h=>⟨h,rfl,rfl⟩) (fun m c i f hm=>?_) fun c t rows ho hA hc=>⟨rfl,?_⟩) (wad _) rfl rfl
 ·rw [e.al];exact qjp hb (by simp) c
 ·rcases qav hc with ⟨rfl,h⟩ | ⟨hne,h⟩
  ·cases h
  ·exact .inr ⟨h,fun _=>id,fun _=>⟨rfl,fun n _=>id⟩⟩
 ·rcases qb3 hm with ⟨_,h⟩ | ⟨_,h⟩
  ·cases h
  ·exact h
 ·rcases qav hc with ⟨_,h2⟩ | ⟨_,h⟩
  ·cases h2
  ·exact ⟨t,rows,ho,h,wad _⟩
theorem EmbH.move {Γ:Cx} {H:List Hs} {w w':World} (e:EmbH Γ H w) {b k:Nat} {B B':Blk} (hb:H[b]?=some (.live B)) (hk:H[k]?=some .free)
  (hold:∀ n,(Γ.κ b≠0→n≠Γ.ν b)→w'.heap[n]?=w.heap[n]?) (hs:w.heap.size≤w'.heap.size) (ho:w'.os=w.os) (hout:w'.output=w.output)
  (hB:RepB w' (Γ.new k (Γ.ν b) (Γ.κ b)) k B') (hnn:∀ t r o,B'≠.nest t r o:=by intro _ _ _ h;cases h) :
  EmbH (Γ.new k (Γ.ν b) (Γ.κ b)) ((H.set b .dead).set k (.live B')) w'∧Ext Γ H w (Γ.new k (Γ.ν b) (Γ.κ b)) ((H.set b .dead).set k (.live B')) w':=by
 have hbk:b≠k:=fun h=>by subst h;rw [hb] at hk;cases hk
 have hkA:=qdw e hk;have hN:∀ c,Nest ((H.set b .dead).set k (.live B')) c→Nest H c∧(Γ.new k (Γ.ν b) (Γ.κ b)).R c=Γ.R c:=fun c h=>by
  obtain ⟨h1,h2⟩:=qr3 (fun t r o h=>hnn t r o (by cases h;rfl)) h
  exact ⟨(qr3 (by intro _ _ _ h;cases h) h2).2,qa6 h1⟩
 refine e.step (fun n=>Γ.κ b≠0∧n=Γ.ν b) rfl (qie e hk) (fun c=>?_) (fun n _ hx=>hold n fun hk he=>hx ⟨hk,he⟩) (fun n hx=>.inl (.inl ⟨b,⟨B,hb⟩,hx.1,hx.2.symm⟩)) (fun c B1 hc=>?_) (fun c c' hc hc' hkc hkc' heq=>?_)
  (e.rows.of (fun c hc=>.inl (hN c hc)) (fun c hc hkc=>?_) (fun n hn=>.inl hn) hs) (fun c n hc ho=>.inl (.inr ⟨c,(hN c hc).1,(Cx.O_congr (hN c hc).2).1 ho⟩))
  (e.vw_keep (qie e hk) (fun m c i f hm=>?_) fun c t rows ho hA hc=>?_) hs ho hout
 ·simp only [Cx.new]
  by_cases hck:k=c
  ·subst hck;rw [waw];simp [qbf hk]
  ·rw [wah hck];have hck':¬ c=k:=fun h=>hck h.symm
   simp only [hck',or_false,e.al];exact qjp hb (by simp) c
 ·rcases qav hc with ⟨rfl,h⟩ | ⟨hne,h⟩
  ·cases h;exact .inl ⟨hB,fun hkc=>.inl (.inl ⟨b,⟨B,hb⟩,by simpa [Cx.new,upd] using hkc,by simp [Cx.new,upd]⟩)⟩
  ·rcases qav h with ⟨rfl,h'⟩ | ⟨hne',h'⟩
   ·cases h'
   ·exact .inr ⟨h',fun hkc hx=>hne' (e.inj _ _ ⟨_,h'⟩ ⟨_,hb⟩ hkc hx.1 hx.2),fun hn=>⟨qa6 hne,fun n ho hx=>e.rows.main c b n hn ⟨_,hb⟩ hx.1 ho hx.2.symm⟩⟩
 ·have hl:∀ d,Live ((H.set b .dead).set k (.live B')) d→d=k∨(d≠k∧d≠b∧Live H d):=fun d ⟨B1,h⟩=>by
   rcases qav h with ⟨rfl,_⟩ | ⟨hne,h⟩
   ·exact .inl rfl
   ·rcases qav h with ⟨rfl,h'⟩ | ⟨hne',h'⟩
    ·cases h'
    ·exact .inr ⟨hne,hne',_,h'⟩
  rcases hl _ hc with rfl | ⟨h1,h2,h3⟩<;>rcases hl _ hc' with rfl | ⟨g1,g2,g3⟩
  ·rfl
  ·simp only [Cx.new,qas,qa6 g1] at heq hkc hkc';exact absurd (e.inj _ _ ⟨B,hb⟩ g3 hkc hkc' heq).symm g2
  ·simp only [Cx.new,qas,qa6 h1] at heq hkc hkc';exact absurd (e.inj _ _ h3 ⟨B,hb⟩ hkc hkc' heq) h2
  ·simp only [Cx.new,qa6 h1,qa6 g1] at heq hkc hkc';exact e.inj _ _ h3 g3 hkc hkc' heq
 ·obtain ⟨B1,h1⟩:=hc
  rcases qav h1 with ⟨rfl,_⟩ | ⟨n1,g1⟩
  ·simp only [Cx.new,qas] at hkc ⊢;exact .inl ⟨b,⟨B,hb⟩,hkc,rfl⟩
  ·simp only [Cx.new,qa6 n1] at hkc ⊢
   rcases qav g1 with ⟨_,g⟩ | ⟨_,g⟩
   ·cases g
   ·exact .inl ⟨c,⟨B1,g⟩,hkc,rfl⟩
 ·rcases qb3 hm with ⟨_,h⟩ | ⟨_,h⟩
  ·cases h
  ·rcases qb3 h with ⟨_,h⟩ | ⟨_,h⟩
   ·cases h
   ·exact h
 ·have hne:c≠k:=fun h=>hkA (h▸hA)
  refine ⟨qa6 hne,t,rows,ho,?_,wad _⟩
  rcases qav hc with ⟨h,_⟩ | ⟨_,h⟩
  ·exact absurd h hne
  ·rcases qav h with ⟨_,h⟩ | ⟨_,h⟩
   ·cases h
   ·exact h
theorem qfh.rep {w:World} {Γ:Cx} {m:Nat} {p:Nat×Nat} {t:Ty} {r:List (Den t)} (h:qfh w Γ.I p t r) (h1:Γ.κ m=p.2) (h2:Γ.κ m≠0→Γ.ν m=p.1):RepB w Γ m (.arr t r true):=by
 simp only [RepB];obtain ⟨g1,g2⟩:=h;refine ⟨by rw [h1];exact g1,(fun h=>by cases h),fun hk=>?_⟩
 rw [h2 hk,h1];exact g2 (by rw [← h1];exact hk)
theorem RepB.nest_ne {w:World} {Γ:Cx} {b:Nat} {t:Ty} {rows:List (List (Den t))} {ho:Option (Nat×Nat)} (h:RepB w Γ b (.nest t rows ho)) {i:Nat} (hi:i<rows.length):Γ.κ b≠0:=by
 simp only [RepB] at h;omega
theorem RepB.nest_row {w:World} {Γ:Cx} {b:Nat} {t:Ty} {rows:List (List (Den t))} {ho:Option (Nat×Nat)} (h:RepB w Γ b (.nest t rows ho)) {i:Nat} (hi:i<rows.length):qfh w Γ.I (Γ.R b i) t (rows.getD i []):=by
 have hk:=h.nest_ne hi;simp only [RepB] at h;obtain ⟨c,el,_,_,h⟩:=h.2 hk;have:=(h i rows[i] (wab hi)).1
 rwa [waa,wab hi,Option.getD_some]
theorem EmbH.res {Γ:Cx} {H:List Hs} {w:World} (e:EmbH Γ H w) {m:Nat} {B:Blk} (h:hres H m=some B):RepB w Γ m B∨∃ t,B=.arr t [] true:=by
 unfold hres at h;split at h
 ·rename_i hm;cases h;exact .inl (e.blk _ _ hm)
 ·rename_i b i f hm;split at h
  ·rename_i t rows ho hb;cases h;have hb:=qaw hb;obtain ⟨_,_,hv⟩:=e.vwA hm
   by_cases hi:i<rows.length
   ·obtain ⟨h1,h2⟩:=hv t rows ho hb hi;exact .inl (((e.blk b _ hb).nest_row hi).rep h1 h2)
   ·refine .inr ⟨t,?_⟩;rw [waa,wac (by omega),Option.getD_none]
  ·cases h
 ·cases h
theorem qzi {H:List Hs} {m:Nat} {B:Blk} (h:H[m]?=some (.live B)):hres H m=some B:=by simp only [hres,h]
def Fa (w:World) (Γ:Cx):List AV→List Value→Prop
 | [],[]=>True
 | a::l,v::vs=>Ra w Γ a v∧Fa w Γ l vs
 | _,_=>False
section
variable {w:World} {Γ:Cx}
theorem Fa.length:∀ {l:List AV} {vs:List Value},Fa w Γ l vs→l.length=vs.length
 | [],[],_=>rfl
 | _::_,_::_,h=>by simp only [wa5,Fa.length h.2]
 | [],_::_,h=>h.elim
 | _::_,[],h=>h.elim
theorem Fa.app:∀ {l m:List AV} {vs us:List Value},Fa w Γ l vs→Fa w Γ m us→Fa w Γ (l++m) (vs++us)
 | [],_,[],_,_,h=>h
 | _::_,_,_::_,_,h,h'=>⟨h.1,Fa.app h.2 h'⟩
 | [],_,_::_,_,h,_=>h.elim
 | _::_,_,[],_,h,_=>h.elim
theorem Fa.take:∀ (n:Nat) {l:List AV} {vs:List Value},Fa w Γ l vs→Fa w Γ (l.take n) (vs.take n)
 | 0,_,_,_=>by simp [Fa]
 | n+1,[],[],_=>by simp [Fa]
 | n+1,_::_,_::_,h=>⟨h.1,Fa.take n h.2⟩
 | _+1,[],_::_,h=>h.elim
 | _+1,_::_,[],h=>h.elim
theorem Fa.drop:∀ (n:Nat) {l:List AV} {vs:List Value},Fa w Γ l vs→Fa w Γ (l.drop n) (vs.drop n)
 | 0,_,_,h=>by simpa using h
 | n+1,[],[],_=>by simp [Fa]
 | n+1,_::_,_::_,h=>by simpa using Fa.drop n h.2
 | _+1,[],_::_,h=>h.elim
 | _+1,_::_,[],h=>h.elim
theorem Fa.get:∀ {l:List AV} {vs:List Value},Fa w Γ l vs→∀ (i:Nat) (a:AV),l[i]?=some a→∃ v,vs[i]?=some v∧Ra w Γ a v
 | [],[],_,i,a,h=>by simp at h
 | _::_,v::_,h,0,a,e=>by simp at e;subst e;exact ⟨v,rfl,h.1⟩
 | _::_,_::_,h,i+1,a,e=>by simpa using Fa.get h.2 i a (by simpa using e)
 | [],_::_,h,_,_,_=>h.elim
 | _::_,[],h,_,_,_=>h.elim
theorem Fa.of_get:∀ {l:List AV} {vs:List Value},l.length=vs.length→(∀ (i:Nat) (a:AV),l[i]?=some a→∃ v,vs[i]?=some v∧Ra w Γ a v)→Fa w Γ l vs
 | [],[],_,_=>trivial
 | a::l,v::vs,hl,h=>⟨by obtain ⟨u,hu,hr⟩:=h 0 a rfl;simp at hu;subst hu;exact hr,Fa.of_get (by simpa using hl) fun i a hi=>by
   obtain ⟨u,hu,hr⟩:=h (i+1) a (by simpa using hi)
   exact ⟨u,by simpa using hu,hr⟩⟩
 | [],_::_,hl,_=>by simp at hl
 | _::_,[],hl,_=>by simp at hl
theorem qds:∀ {l:List AV} {vs:List Value},Rp w Γ (toAV l) vs↔Fa w Γ l vs
 | [],vs=>by cases vs<;>simp [toAV,Rp,Fa]
 | a::l,[]=>by simp [toAV,Rp,Fa]
 | a::l,v::vs=>by
  simp only [toAV,Rp,Fa,wa0,Ra];constructor
  ·rintro ⟨u,us,⟨rfl,rfl⟩,h1,h2⟩;exact ⟨h1,qds.1 h2⟩
  ·rintro ⟨h1,h2⟩;exact ⟨v,vs,⟨rfl,rfl⟩,h1,qds.2 h2⟩
theorem qo2:∀ {l:AV} {vs:List Value},Rp w Γ l vs→∀ (i:Nat) (a:AV),(ofAV l)[i]?=some a→∃ v,vs[i]?=some v∧Ra w Γ a v
 | .cons a l,vs,h,0,x,e=>by
  simp only [Rp] at h;obtain ⟨v,us,rfl,h1,h2⟩:=h;simp [ofAV] at e;subst e;exact ⟨v,rfl,h1⟩
 | .cons a l,vs,h,i+1,x,e=>by
  simp only [Rp] at h;obtain ⟨v,us,rfl,h1,h2⟩:=h;simp only [ofAV,wa4] at e ⊢;exact qo2 h2 i x e
 | .undef,_,_,_,_,e=>by simp [ofAV] at e
 | .val ..,_,_,_,_,e=>by simp [ofAV] at e
 | .gd ..,_,_,_,_,e=>by simp [ofAV] at e
 | .opt ..,_,_,_,_,e=>by simp [ofAV] at e
 | .anyb ..,_,_,_,_,e=>by simp [ofAV] at e
 | .ref ..,_,_,_,_,e=>by simp [ofAV] at e
 | .sl ..,_,_,_,_,e=>by simp [ofAV] at e
 | .vsl ..,_,_,_,_,e=>by simp [ofAV] at e
 | .mref ..,_,_,_,_,e=>by simp [ofAV] at e
 | .fn ..,_,_,_,_,e=>by simp [ofAV] at e
 | .tup ..,_,_,_,_,e=>by simp [ofAV] at e
 | .agg ..,_,_,_,_,e=>by simp [ofAV] at e
 | .nil,_,_,_,_,e=>by simp [ofAV] at e
end
set_option linter.unusedSimpArgs false
def Does (P:Program) (Γ:Cx) (H:List Hs) (w:World) (e:Ef) (r:Result Next):Prop :=
 (∃ v w' Γ',(r=.ok (.value v) w'∨(r=.ok .skip w'∧v=undef))∧Ext Γ H w Γ' (qar H e.up) w'∧EmbH Γ' (qar H e.up) w'∧Ra w' Γ' e.v v) ∨
 (∃ f args,r=.ok (.enter f args) w∧Calls P f args w fun en w'=>∃ v Γ',en=.returned v∧Ext Γ H w Γ' (qar H e.up) w'∧EmbH Γ' (qar H e.up) w'∧Ra w' Γ' e.v v)
structure SpecOk (P:Program) (sp:Spec):Prop where
 ok:∀ (f:FuncId) (H:List Hs) (base:Nat) (args:List AV),allP (sp f H base args).ob→qbr P f=true ∧
  ∀ (Γ:Cx) (w:World) (vs:List Value),EmbH Γ H w→Fa w Γ args vs →
   Calls P f vs.toArray w fun en w'=>∃ v Γ',en=.returned v∧Ext Γ H w Γ' (qar H (sp f H base args).up) w'∧EmbH Γ' (qar H (sp f H base args).up) w'∧Ra w' Γ' (sp f H base args).v v
 mrk:∀ (f:FuncId) (H:List Hs) (base:Nat) (c:Bool) (args:List AV),allP (sp f H base (mark c::args)).ob →
  (c=true→qbr P f=true∧∀ (Γ:Cx) (w:World) (vs:List Value),EmbH Γ H w→Fa w Γ args vs →
   Calls P f vs.toArray w fun en w'=>∃ v Γ',en=.returned v∧Ext Γ H w Γ' (qar H (sp f H base (mark c::args)).up) w'∧EmbH Γ' (qar H (sp f H base (mark c::args)).up) w'∧Ra w' Γ' (sp f H base (mark c::args)).v v) ∧
  (c=false→∀ (Γ:Cx) (w:World),EmbH Γ H w→∃ Γ',Ext Γ H w Γ' (qar H (sp f H base (mark c::args)).up) w∧EmbH Γ' (qar H (sp f H base (mark c::args)).up) w)
theorem qaa {α:Prop} (h:allP Ef.fail.ob):α:=(allP_one.1 h).elim
section
variable {P:Program} {Γ:Cx} {H:List Hs} {w:World} {S:St} {a:Act}
theorem Does.val {e:Ef} {r:Result Next} {v:Value} (em:EmbH Γ H w) (h:r=.ok (.value v) w) (hup:e.up=[]) (hr:Ra w Γ e.v v):Does P Γ H w e r:=by
 refine .inl ⟨v,w,Γ,.inl h,?_,?_,hr⟩
 ·rw [hup];exact Ext.refl _ _ _
 ·rw [hup];exact em
theorem qcg {v:Value}:Ra w Γ .undef v:=by simp only [Ra,Rp];exact ⟨v,rfl⟩
theorem qtl {ty:Option Ty} {v:Value} {x:AV} (h:qgl ty v=some x):Ra w Γ x v:=by
 cases v with
 | int k n=>simp only [qgl,waz] at h;subst h;exact qcq.2 rfl
 | bool b=>simp only [qgl,waz] at h;subst h;exact qcs.2 rfl
 | slice ad n c =>
  cases ad with
  | some ad=>simp [qgl] at h
  | none =>
   cases n with
   | succ n=>simp [qgl] at h
   | zero=>cases c with
    | succ c=>simp [qgl] at h
    | zero =>
     simp only [qgl] at h;split at h
     ·cases h;simp only [Ra,Rp];exact ⟨⟨_,rfl⟩,by simp,fun h=>by cases h⟩
     ·cases h
 | pointer p =>
  cases p with
  | some p=>simp [qgl] at h
  | none =>
   simp only [qgl] at h;split at h
   ·cases h;exact Ra_val.2 ⟨[.pointer none],by simp only [RepC];exact .inl ⟨rfl,trivial⟩,rfl⟩
   ·cases h
 | agg cs =>
  simp only [qgl] at h;split at h
  ·split at h
   ·split at h
    ·cases h;rename_i hag _ x hd;exact Ra_val.2 ⟨_,qcx _ _ _ hd,by simp [mkV,hag]⟩
    ·cases h
   ·cases h
  ·cases h
 | _=>simp [qgl] at h
theorem qaj (em:Emb Γ S a w) {ty:Option Ty} {x:Operand} {od:Od} (h:cOd ty x=some od):Ra w Γ (ev S.T od) (a.eval x):=by
 cases x with
 | tmp t=>simp only [cOd,waz] at h;subst h;exact qsk em t
 | const v =>
  simp only [cOd] at h;split at h
  ·cases h;rename_i hc;exact qtl hc
  ·cases h
 | global g=>simp [cOd] at h
 | func f =>
  simp only [cOd] at h;split at h
  ·cases h
  ·rename_i hB;cases h;simp only [ev,Ra,Rp];exact ⟨[],by unfold fnV;rw [hB];rfl,rfl⟩
theorem qil {x:Operand} {c:Int} (h:qmd x=some c):∃ k,a.eval x=.int k c:=by
 cases x<;>simp only [qmd] at h<;>try cases h
 rename_i v;cases v<;>simp at h
 subst h;exact ⟨_,rfl⟩
theorem qbh {x:AV} {k:AV→Ef} (h:allP (p1 x k).ob):allP (peel x).1∧allP (k (peel x).2).ob:=qag.1 h
theorem qbd {t:TypeId} {ty:Ty} (h:tyS P t=some ty):∃ i d,P.info? t=some i∧P.underlying t=some d∧i.size=sz ty∧aggD d=isAgg ty:=by
 unfold tyS at h;split at h
 ·split at h
  ·cases h;rename_i i d h1 h2 _ h3;exact ⟨i,d,h1,h2,h3.1,h3.2⟩
  ·cases h
 ·cases h
theorem qy8 (em:Emb Γ S a w) {ty:Option Ty} {x:Operand} {od:Od} (h:cOd ty x=some od) {r:Result Next} (hr:r=.ok (.value (a.eval x)) w):Does P Γ S.H w (.ok (ev S.T od)) r :=
 Does.val em.heap hr rfl (qaj em h)
theorem qzs {t:Ty} {x:Bool} {y z:Den t} {v:Value} (h1:x=true→Ra w Γ (.val t y) v) (h2:x=false→Ra w Γ (.val t z) v):Ra w Γ (.val t (bif x then y else z)) v:=by
 cases x
 ·exact h2 rfl
 ·exact h1 rfl
theorem qy5 (em:Emb Γ S a w) (sp:Spec) (base:Nat) {c x y:Operand} {c' x' y':Od} (hc:cOd none c=some c') (hx:cOd none x=some x') (hy:cOd none y=some y')
  {o:Oper} (ho:o.op=.pick c x y) (hob:allP (aeff sp base S.T S.H (.pick c' x' y')).ob):Does P Γ S.H w (aeff sp base S.T S.H (.pick c' x' y')) ((execOp a.eval o).run P w):=by
 have r1:=qaj em hc;have r2:=qaj em hx;have r3:=qaj em hy;rw [aeff] at hob ⊢;obtain ⟨p,hob⟩:=qbh hob;have r1:=qah r1 p;show Does P Γ S.H w (match asBool (peel (ev S.T c')).2 with | some x=>_ | none=>_) _
 cases hb:asBool (peel (ev S.T c')).2 with
 | none=>rw [hb] at hob;exact qaa hob
 | some b =>
  have e1:=qgz hb r1;rw [hb] at hob;simp only at hob ⊢
  cases hx2:peel (ev S.T x') with
  | mk p1 x2=>cases hy2:peel (ev S.T y') with
   | mk p2 y2 =>
    rw [hx2,hy2] at hob
    cases x2 with
    | val t1 z1=>cases y2 with
     | val t2 z2 =>
      simp only at hob ⊢
      cases hcast:qa9 t2 t1 z2 with
      | none=>rw [hcast] at hob;exact qaa hob
      | some z =>
       rw [hcast] at hob;obtain ⟨et,rfl⟩:=qat hcast;subst et;obtain ⟨h1,h2⟩:=qag.1 hob;have g1:=qe6.1 h1;have g2:=qe6.1 h2;have q1:b=true→Ra w Γ (.val t2 z1) (a.eval x):=fun hbt=>by
        have:=qah r2 (by rw [hx2];exact g1 hbt)
        rwa [hx2] at this
       have q2:b=false→Ra w Γ (.val t2 z2) (a.eval y):=fun hbt=>by
        have:=qah r3 (by rw [hy2];exact g2 hbt)
        rwa [hy2] at this
       refine Does.val em.heap (v:=if b then a.eval x else a.eval y) ?_ rfl ?_
       ·simp [execOp,ho,e1,Go.asBool]
       ·cases b
        ·exact qzs (fun h=>by cases h) (fun _=>q2 rfl)
        ·exact qzs (fun _=>q1 rfl) (fun h=>by cases h)
     | undef =>
      simp only at hob ⊢;obtain ⟨h1,h2⟩:=qag.1 hob;have hbt:b=true:=allP_one.1 h2;have g1:=qe6.1 h1;have q1:Ra w Γ (.val t1 z1) (a.eval x):=by
       have:=qah r2 (by rw [hx2];exact g1 hbt)
       rwa [hx2] at this
      refine Does.val em.heap (v:=a.eval x) ?_ rfl q1;simp [execOp,ho,e1,hbt,Go.asBool]
     | _=>exact qaa hob
    | _=>exact qaa hob
theorem qyl {op:BinOp} {b:BOp} (hop:q6a op=some b) {k k':IntKind} {x y:Int} (hk:b=.shl∨b=.shr∨k=k') (hob:allP (binI b k x y).1) (xt:TypeId) :
  ∃ v,(binOp op xt (.int k x) (.int k' y)).run P w=.ok v w∧Ra w Γ (binI b k x y).2 v:=by
 have hshl:∀ b:BOp,b=.shl∨b=.shr∨k=k'→b≠.shl→b≠.shr→k=k':=fun b h h1 h2=>(h.resolve_left h1).resolve_left h2
 cases op<;>simp only [q6a,waz,reduceCtorEq] at hop<;>subst hop
 case add=>have e:=hshl _ hk (by simp) (by simp);subst e;refine ⟨_,?_,qcq.2 rfl⟩;simp [binOp,Op.intArith,wr,iand,ior,ixor,qly,ishl,ishr]
 case sub=>have e:=hshl _ hk (by simp) (by simp);subst e;refine ⟨_,?_,qcq.2 rfl⟩;simp [binOp,Op.intArith,wr,iand,ior,ixor,qly,ishl,ishr]
 case mul=>have e:=hshl _ hk (by simp) (by simp);subst e;refine ⟨_,?_,qcq.2 rfl⟩;simp [binOp,Op.intArith,wr,iand,ior,ixor,qly,ishl,ishr]
 case quo=>have e:=hshl _ hk (by simp) (by simp);subst e;have h0:=allP_one.1 hob;refine ⟨_,?_,qcq.2 rfl⟩;simp [binOp,Op.intDiv,h0,wr,iand,ior,ixor,qly,ishl,ishr]
 case rem=>have e:=hshl _ hk (by simp) (by simp);subst e;have h0:=allP_one.1 hob;refine ⟨_,?_,qcq.2 rfl⟩;simp [binOp,Op.intDiv,h0,wr,iand,ior,ixor,qly,ishl,ishr]
 case and=>have e:=hshl _ hk (by simp) (by simp);subst e;refine ⟨_,?_,qcq.2 rfl⟩;simp [binOp,Op.intBits,wr,iand,ior,ixor,qly,ishl,ishr]
 case or=>have e:=hshl _ hk (by simp) (by simp);subst e;refine ⟨_,?_,qcq.2 rfl⟩;simp [binOp,Op.intBits,wr,iand,ior,ixor,qly,ishl,ishr]
 case xor=>have e:=hshl _ hk (by simp) (by simp);subst e;refine ⟨_,?_,qcq.2 rfl⟩;simp [binOp,Op.intBits,wr,iand,ior,ixor,qly,ishl,ishr]
 case andNot=>have e:=hshl _ hk (by simp) (by simp);subst e;refine ⟨_,?_,qcq.2 rfl⟩;simp [binOp,Op.intBits,wr,iand,ior,ixor,qly,ishl,ishr]
 case shl=>have h0:=allP_one.1 hob;refine ⟨_,?_,qcq.2 rfl⟩;simp [binOp,Op.shift,Int.not_lt.2 h0,wr,iand,ior,ixor,qly,ishl,ishr]
 case shr=>have h0:=allP_one.1 hob;refine ⟨_,?_,qcq.2 rfl⟩;simp [binOp,Op.shift,Int.not_lt.2 h0,wr,iand,ior,ixor,qly,ishl,ishr]
 case eql=>have e:=hshl _ hk (by simp) (by simp);subst e;refine ⟨_,?_,qcs.2 rfl⟩;simp [binOp,Op.intCmp,ieq,ilt,ile,bne]
 case neq=>have e:=hshl _ hk (by simp) (by simp);subst e;refine ⟨_,?_,qcs.2 rfl⟩;simp [binOp,Op.intCmp,ieq,ilt,ile,bne]
 case lss=>have e:=hshl _ hk (by simp) (by simp);subst e;refine ⟨_,?_,qcs.2 rfl⟩;simp [binOp,Op.intCmp,ieq,ilt,ile,bne]
 case leq=>have e:=hshl _ hk (by simp) (by simp);subst e;refine ⟨_,?_,qcs.2 rfl⟩;simp [binOp,Op.intCmp,ieq,ilt,ile,bne]
 case gtr=>have e:=hshl _ hk (by simp) (by simp);subst e;refine ⟨_,?_,qcs.2 rfl⟩;simp [binOp,Op.intCmp,ieq,ilt,ile,bne]
 case geq=>have e:=hshl _ hk (by simp) (by simp);subst e;refine ⟨_,?_,qcs.2 rfl⟩;simp [binOp,Op.intCmp,ieq,ilt,ile,bne]
theorem qui {op:BinOp} {t:TypeId} {x y:Operand} {k k':IntKind} {m n:Int}:(eqGuard op t x y (.int k m) (.int k' n)).run P w=.ok () w:=by
 unfold eqGuard;cases op<;>rfl
theorem q4g (em:Emb Γ S a w) (sp:Spec) (base:Nat) {tx ty:Option Ty} {x y:Operand} {x' y':Od} {op:BinOp} {b:BOp} (hx:cOd tx x=some x') (hy:cOd ty y=some y') (hop:q6a op=some b)
  {o:Oper} {xt yt:TypeId} (ho:o.op=.binOp op xt x y yt) (hob:allP (aeff sp base S.T S.H (.bin b x' y')).ob):Does P Γ S.H w (aeff sp base S.T S.H (.bin b x' y')) ((execOp a.eval o).run P w):=by
 have r1:=qaj em hx;have r2:=qaj em hy;rw [aeff] at hob ⊢;obtain ⟨p,hob⟩:=qbh hob;obtain ⟨q,hob⟩:=qbh hob;have r1:=qah r1 p;have r2:=qah r2 q;show Does P Γ S.H w (match asInt (peel (ev S.T x')).2,asInt (peel (ev S.T y')).2 with | some (k,a),some (k',c)=>_ | _,_=>_) _
 cases h1:asInt (peel (ev S.T x')).2 with
 | none=>rw [h1] at hob;exact qaa hob
 | some u=>cases h2:asInt (peel (ev S.T y')).2 with
  | none=>rw [h1,h2] at hob;exact qaa hob
  | some v =>
   obtain ⟨k,m⟩:=u;obtain ⟨k',n⟩:=v;rw [h1,h2] at hob;simp only at hob ⊢;split at hob
   ·rename_i hk;rw [if_pos hk];obtain ⟨v,hv,hr⟩:=qyl (P:=P) (w:=w) (Γ:=Γ) hop hk hob xt;refine Does.val em.heap (v:=v) ?_ rfl hr;simp [execOp,ho,qbe h1 r1,qbe h2 r2,qui,hv]
   ·exact qaa hob
theorem q48 (em:Emb Γ S a w) (sp:Spec) (base:Nat) {tx:Option Ty} {x:Operand} {x':Od} (hx:cOd tx x=some x')
  {o:Oper} {xt:TypeId} (ho:o.op=.unOp .not xt x) (hob:allP (aeff sp base S.T S.H (.not x')).ob):Does P Γ S.H w (aeff sp base S.T S.H (.not x')) ((execOp a.eval o).run P w):=by
 have r1:=qaj em hx;rw [aeff] at hob ⊢;obtain ⟨p,hob⟩:=qbh hob;have r1:=qah r1 p;show Does P Γ S.H w (match asBool (peel (ev S.T x')).2 with | some b=>_ | none=>_) _
 cases h1:asBool (peel (ev S.T x')).2 with
 | none=>rw [h1] at hob;exact qaa hob
 | some b =>
  refine Does.val em.heap (v:=.bool (!b)) ?_ rfl (qcs.2 rfl);simp [execOp,ho,qgz h1 r1,Op.unary]
theorem q41 (em:Emb Γ S a w) (sp:Spec) (base:Nat) {tx:Option Ty} {x:Operand} {x':Od} (hx:cOd tx x=some x')
  {o:Oper} {xt:TypeId} (ho:o.op=.unOp .neg xt x) (hob:allP (aeff sp base S.T S.H (.neg x')).ob):Does P Γ S.H w (aeff sp base S.T S.H (.neg x')) ((execOp a.eval o).run P w):=by
 have r1:=qaj em hx;rw [aeff] at hob ⊢;obtain ⟨p,hob⟩:=qbh hob;have r1:=qah r1 p;show Does P Γ S.H w (match asInt (peel (ev S.T x')).2 with | some (k,n)=>_ | none=>_) _
 cases h1:asInt (peel (ev S.T x')).2 with
 | none=>rw [h1] at hob;exact qaa hob
 | some u =>
  obtain ⟨k,n⟩:=u;refine Does.val em.heap (v:=.int k (wr k (0-n))) ?_ rfl (qcq.2 rfl);simp [execOp,ho,qbe h1 r1,Op.unary,Op.intArith,wr]
theorem q0i (em:Emb Γ S a w) (sp:Spec) (base:Nat) {tx:Option Ty} {x:Operand} {x':Od} (hx:cOd tx x=some x')
  {o:Oper} {s d:TypeId} {ks kd:IntKind} (hs:P.underlying s=some (.int ks)) (hd:P.underlying d=some (.int kd)) (ho:o.op=.convert s d x)
  (hob:allP (aeff sp base S.T S.H (.conv kd x')).ob):Does P Γ S.H w (aeff sp base S.T S.H (.conv kd x')) ((execOp a.eval o).run P w):=by
 have r1:=qaj em hx;rw [aeff] at hob ⊢;obtain ⟨p,hob⟩:=qbh hob;have r1:=qah r1 p;show Does P Γ S.H w (match asInt (peel (ev S.T x')).2 with | some (_,n)=>_ | none=>_) _
 cases h1:asInt (peel (ev S.T x')).2 with
 | none=>rw [h1] at hob;exact qaa hob
 | some u =>
  obtain ⟨k,n⟩:=u;refine Does.val em.heap (v:=.int kd (wr kd n)) ?_ rfl (qcq.2 rfl);simp [execOp,ho,qbe h1 r1,convert,run_underlying hs,run_underlying hd,Conv.intToInt,wr]
end
section
variable {P:Program} {Γ:Cx} {H:List Hs} {w:World} {S:St} {a:Act}
theorem qc3 {b s i o:Nat} {v:Value}:Ra w Γ (.ref b s i o) v↔Γ.A b∧v=.pointer (some ⟨Γ.ν b,i*s+o,none⟩):=by
 simp only [Ra,Rp,wa0,and_true]
theorem qca {b s i len:Nat} {c:Option Nat} {v:Value}:Ra w Γ (.sl b s i len c) v↔Γ.A b∧∃ ad cap,v=.slice ad len cap∧cap=c.getD (Γ.κ b-i)∧(cap≠0→ad=some ⟨Γ.ν b,i*s,none⟩)∧len≤cap:=by
 simp only [Ra,Rp,wa0,and_true]
theorem qbv {b off n:Nat}:(⟨b,off,none⟩:Addr).add n=⟨b,off+n,none⟩:=by
 unfold Addr.add;split
 ·rename_i h;subst h;rfl
 ·rfl
theorem qol {b off:Nat} {f:Field} {i:TypeInfo} (hi:P.info? f.type=some i) (h0:0<i.size):(fieldPlace ⟨b,off,none⟩ f).run P w=.ok ⟨b,off+f.offset,none⟩ w:=by
 unfold fieldPlace;simp [sizeOf,typeInfo,hi,Nat.ne_of_gt h0,qbv]
theorem qzu (em:Emb Γ S a w) (sp:Spec) (base:Nat) {tx:Option Ty} {x:Operand} {x':Od} (hx:cOd tx x=some x')
  {o:Oper} (ho:o.op=.nilCheck x) (hob:allP (aeff sp base S.T S.H (.nilc x')).ob):Does P Γ S.H w (aeff sp base S.T S.H (.nilc x')) ((execOp a.eval o).run P w):=by
 have r1:=qaj em hx;rw [aeff] at hob ⊢;obtain ⟨p,hob⟩:=qbh hob;have r1:=qah r1 p
 revert hob
 show allP (Ef.ob (match (peel (ev S.T x')).2 with | .val (.optr e) o=>_ | .val (.ptr e) y=>_ | .ref b s i o=>_ | .fn f c=>_ | _=>_))→Does P Γ S.H w (match (peel (ev S.T x')).2 with | .val (.optr e) o=>_ | .val (.ptr e) y=>_ | .ref b s i o=>_ | .fn f c=>_ | _=>_) _
 generalize (peel (ev S.T x')).2=X at r1;intro hob
 cases X with
 | val t y =>
  cases t with
  | optr e =>
   have h1:=allP_one.1 hob
   cases y with
   | none=>cases h1
   | some z =>
    obtain ⟨cs,hc,hv⟩:=Ra_val.1 r1;simp only [RepC] at hc
    rcases hc with ⟨hc,_⟩ | ⟨z',hz,b,off,c,rfl,g1,g2,g3⟩
    ·cases hc
    ·cases hz;refine Does.val em.heap (v:=.pointer (some ⟨b,off,none⟩)) ?_ rfl (Ra_val.2 (qeh.2 ⟨b,off,c,rfl,g1,g2,g3⟩));simp [execOp,ho,hv,mkV,isAgg]
  | ptr e =>
   obtain ⟨b,off,c,hv,_⟩:=qeh.1 (Ra_val.1 r1);exact Does.val em.heap (v:=a.eval x) (by simp [execOp,ho,hv]) rfl r1
  | _=>exact qaa hob
 | ref b s i o' =>
  obtain ⟨h1,hv⟩:=qc3.1 r1;exact Does.val em.heap (v:=a.eval x) (by simp [execOp,ho,hv]) rfl r1
 | fn f c =>
  have:=r1;simp only [Ra,Rp,wa0,and_true] at this;obtain ⟨us,hv,_⟩:=this;refine Does.val em.heap (v:=a.eval x) ?_ rfl r1;unfold fnV at hv;cases hb:Nat.ble 4096 f<;>rw [hb] at hv<;>simp [execOp,ho,hv]
 | _=>exact qaa hob
theorem qw7 (em:Emb Γ S a w) (sp:Spec) (base:Nat) {tx:Option Ty} {x:Operand} {x':Od} (hx:cOd tx x=some x') {off:Nat} {te:Ty}
  {o:Oper} (ho:∀ b q,a.eval x=.pointer (some ⟨b,q,none⟩)→(execOp a.eval o).run P w=.ok (.value (.pointer (some ⟨b,q+off,none⟩))) w)
  (hob:allP (aeff sp base S.T S.H (.fld off te x')).ob):Does P Γ S.H w (aeff sp base S.T S.H (.fld off te x')) ((execOp a.eval o).run P w):=by
 have r1:=qaj em hx;rw [aeff] at hob ⊢;obtain ⟨p,hob⟩:=qbh hob;have r1:=qah r1 p
 revert hob
 show allP (Ef.ob (match (peel (ev S.T x')).2 with | .val (.ptr t) y=>_ | .ref b s i o=>_ | _=>_))→Does P Γ S.H w (match (peel (ev S.T x')).2 with | .val (.ptr t) y=>_ | .ref b s i o=>_ | _=>_) _
 generalize (peel (ev S.T x')).2=X at r1;intro hob
 cases X with
 | val t y =>
  cases t with
  | ptr t =>
   simp only at hob ⊢
   cases hs:sub t off te y with
   | none=>rw [hs] at hob;exact qaa hob
   | some z =>
    obtain ⟨b,q,c,hv,g1,g2,g3⟩:=qeh.1 (Ra_val.1 r1);obtain ⟨k1,_⟩:=qg5 t off y z c hs g2;exact Does.val em.heap (ho b q hv) rfl (Ra_val.2 (qeh.2 ⟨b,q+off,_,rfl,g1,k1,g3.part off (sz te)⟩))
  | _=>exact qaa hob
 | ref b s i o' =>
  obtain ⟨h1,hv⟩:=qc3.1 r1;simp only at hob ⊢;split
  ·rename_i hs;subst hs;exact Does.val em.heap (ho _ _ hv) rfl (qc3.2 ⟨h1,by simp only [Nat.mul_one];congr 3;omega⟩)
  ·exact Does.val em.heap (ho _ _ hv) rfl (qc3.2 ⟨h1,by simp only [Nat.add_assoc]⟩)
 | _=>exact qaa hob
theorem qza (em:Emb Γ S a w) (sp:Spec) (base:Nat) {tx:Option Ty} {x:Operand} {x':Od} (hx:cOd tx x=some x') {off:Nat}
  {o:Oper} (ho:∀ b q,a.eval x=.pointer (some ⟨b,q,none⟩)→(execOp a.eval o).run P w=.ok (.value (.pointer (some ⟨b,q+off,none⟩))) w)
  (hob:allP (aeff sp base S.T S.H (.flda off x')).ob):Does P Γ S.H w (aeff sp base S.T S.H (.flda off x')) ((execOp a.eval o).run P w):=by
 have r1:=qaj em hx;rw [aeff] at hob ⊢;obtain ⟨p,hob⟩:=qbh hob;have r1:=qah r1 p
 revert hob
 show allP (Ef.ob (match (peel (ev S.T x')).2 with | .ref b s i o=>_ | _=>_))→Does P Γ S.H w (match (peel (ev S.T x')).2 with | .ref b s i o=>_ | _=>_) _
 generalize (peel (ev S.T x')).2=X at r1;intro hob
 cases X with
 | ref b s i o' =>
  obtain ⟨h1,hv⟩:=qc3.1 r1;simp only at hob ⊢;split
  ·rename_i hs;obtain ⟨rfl,rfl,rfl⟩:=hs;exact Does.val em.heap (ho _ _ hv) rfl (qc3.2 ⟨h1,by simp⟩)
  ·rename_i hs;rw [if_neg hs] at hob;exact qaa hob
 | _=>exact qaa hob
theorem qt2 {cs:Array Value} {i n:Nat}:(cs.extract i (i+n)).toList=(cs.toList.drop i).take n:=by
 simp [List.take_drop,Nat.add_comm]
theorem qdk {e:TypeId} {te:Ty} (ht:tyS P e=some te) {cs:Array Value} {off:Nat} {x:Den te} {I:Nat→Prop} (hc:RepC w I te x ((cs.toList.drop off).take (sz te))) :
  (part e cs off).run P w=.ok (mkV te ((cs.toList.drop off).take (sz te))) w:=by
 obtain ⟨i,d,hi,hu,hs,ha⟩:=qbd ht;have hlen:=RepC.length _ _ _ hc;unfold part mkV
 by_cases hagg:isAgg te=true
 ·rw [hagg] at ha;have hd:(Go.isAgg e).run P w=.ok true w:=by
   unfold Go.isAgg;simp only [Sem.run_bind,run_underlying hu,wbp];cases d<;>simp [aggD] at ha<;>rfl
  simp only [Sem.run_bind,hd,wbp,if_true,hagg,sizeOf,typeInfo,run_program,hi,Sem.run_pure,hs];congr 1;rw [← qt2]
 ·have hagg':isAgg te=false:=by simpa using hagg
  rw [hagg'] at ha;have hd:(Go.isAgg e).run P w=.ok false w:=by
   unfold Go.isAgg;simp only [Sem.run_bind,run_underlying hu,wbp];cases d<;>simp [aggD] at ha<;>rfl
  have h1:sz te=1:=by cases te<;>simp [isAgg] at hagg'<;>rfl
  rw [h1] at hlen ⊢;simp only [Sem.run_bind,hd,wbp,hagg',if_false,wa2]
  cases hq:cs.toList.drop off with
  | nil=>rw [hq] at hlen;simp at hlen
  | cons v l =>
   have hv:cs[off]?=some v:=by
    have:=congrArg (fun l=>l[0]?) hq
    simpa using this
   rw [hv];rfl
theorem qss (em:Emb Γ S a w) (sp:Spec) (base:Nat) {tx:Option Ty} {x:Operand} {x':Od} (hx:cOd tx x=some x') {off:Nat} {e:TypeId} {te:Ty} (ht:tyS P e=some te)
  {o:Oper} (ho:∀ cs,a.eval x=.agg cs→(execOp a.eval o).run P w=((part e cs off).run P w).andThen fun v w'=>.ok (.value v) w')
  (hob:allP (aeff sp base S.T S.H (.fldv off te x')).ob):Does P Γ S.H w (aeff sp base S.T S.H (.fldv off te x')) ((execOp a.eval o).run P w):=by
 have r1:=qaj em hx;rw [aeff] at hob ⊢;obtain ⟨p,hob⟩:=qbh hob;have r1:=qah r1 p
 revert hob
 show allP (Ef.ob (match (peel (ev S.T x')).2 with | .val t y=>_ | _=>_))→Does P Γ S.H w (match (peel (ev S.T x')).2 with | .val t y=>_ | _=>_) _
 generalize (peel (ev S.T x')).2=X at r1;intro hob
 cases X with
 | val t y =>
  simp only at hob ⊢
  cases hag:isAgg t with
  | false=>rw [hag] at hob;exact qaa hob
  | true =>
   rw [hag] at hob;simp only [if_true] at hob ⊢
   cases hs:sub t off te y with
   | none=>rw [hs] at hob;exact qaa hob
   | some z =>
    obtain ⟨cs,hc,hv⟩:=Ra_val.1 r1;simp only [mkV,hag,if_true] at hv;obtain ⟨k1,_⟩:=qg5 t off y z cs hs hc;refine Does.val em.heap (v:=mkV te ((cs.drop off).take (sz te))) ?_ rfl (Ra_val.2 ⟨_,k1,rfl⟩);rw [ho _ hv,qdk ht (by simpa using k1)]
    rfl
 | _=>exact qaa hob
theorem qrd {n:Int} {len:Nat} (h:0≤n∧n<(len:Int)):n.toNat<len:=by omega
theorem qjz {t e:TypeId} (hu:P.underlying t=some (.slice e)) {i:TypeInfo} (hi:P.info? e=some i) {b off len cap:Nat} {k:IntKind} {n:Int} (h:0≤n∧n<(len:Int)) :
  (Instr.indexAt t (.slice (some ⟨b,off,none⟩) len cap) (.int k n)).run P w=.ok (.pointer (some ⟨b,off+n.toNat*i.size,none⟩)) w:=by
 simp [Instr.indexAt,asIntOf,run_underlying hu,h.1,h.2,sizeOf,typeInfo,hi,qbv]
theorem qf6 {t e:TypeId} {l:Nat} (hu:P.underlying t=some (.array l e)) {i:TypeInfo} (hi:P.info? e=some i) {b off:Nat} {k:IntKind} {n:Int} (h:0≤n∧n<(l:Int)) :
  (Instr.indexAt t (.pointer (some ⟨b,off,none⟩)) (.int k n)).run P w=.ok (.pointer (some ⟨b,off+n.toNat*i.size,none⟩)) w:=by
 simp [Instr.indexAt,asIntOf,run_underlying hu,h.1,h.2,sizeOf,typeInfo,hi,qbv,Instr.sureAddr]
theorem q5x (em:Emb Γ S a w) (sp:Spec) (base:Nat) {tx ti:Option Ty} {x i:Operand} {x' i':Od} (hx:cOd tx x=some x') (hi:cOd ti i=some i') {t e:TypeId} {te:Ty}
  (hu:P.underlying t=some (.slice e)) (ht:tyS P e=some te)
  {o:Oper} (ho:o.op=.indexAddr t x i)
  (hob:allP (aeff sp base S.T S.H (.ixs te x' i')).ob):Does P Γ S.H w (aeff sp base S.T S.H (.ixs te x' i')) ((execOp a.eval o).run P w):=by
 have r1:=qaj em hx;have r2:=qaj em hi;obtain ⟨inf,d,hinf,_,hs,_⟩:=qbd ht;rw [aeff] at hob ⊢;obtain ⟨p,hob⟩:=qbh hob;have r2:=qah r2 p
 revert hob
 show allP (Ef.ob (match asInt (peel (ev S.T i')).2 with | some (_,n)=>_ | none=>_))→Does P Γ S.H w (match asInt (peel (ev S.T i')).2 with | some (_,n)=>_ | none=>_) _
 cases h1:asInt (peel (ev S.T i')).2 with
 | none=>exact fun hob=>qaa hob
 | some u =>
  obtain ⟨k,n⟩:=u;have e2:=qbe h1 r2;intro hob;obtain ⟨q,hob⟩:=qbh hob;have r1:=qah r1 q
  revert hob
  show allP (Ef.ob (match qfw te (peel (ev S.T x')).2 with | some ys=>_ | none=>_))→Does P Γ S.H w (match qfw te (peel (ev S.T x')).2 with | some ys=>_ | none=>_) _
  generalize (peel (ev S.T x')).2=X at r1
  cases h2:qfw te X with
  | some ys =>
   intro hob;have hb:=allP_one.1 hob;obtain ⟨ad,cap,hv,hcap,had,hat⟩:=qhb h2 r1;have hlt:=qrd hb;obtain ⟨b,off,cs,rfl,g1,g2,g3⟩:=hat n.toNat ys[n.toNat] (wab hlt);refine Does.val em.heap (v:=.pointer (some ⟨b,off+n.toNat*sz te,none⟩)) ?_ rfl (Ra_val.2 (qeh.2 ⟨b,_,cs,rfl,g1,?_,g3⟩))
   ·simp only [execOp,ho,hv,e2,Sem.run_bind];rw [qjz hu hinf hb,hs];rfl
   ·rw [waa,wab hlt];exact g2
  | none =>
   intro hob
   cases X with
   | sl b s j len c =>
    simp only at hob ⊢;split at hob
    ·rename_i hsz;rw [if_pos hsz];have hb:=allP_one.1 hob;obtain ⟨h3,ad,cap,hv,hcap,hoff,hle⟩:=qca.1 r1;have:cap≠0:=by have:=qrd hb;omega
     have had:=hoff this;subst had;refine Does.val em.heap (v:=.pointer (some ⟨Γ.ν b,j*s+n.toNat*sz te,none⟩)) ?_ rfl (qc3.2 ⟨h3,?_⟩)
     ·simp only [execOp,ho,hv,e2,Sem.run_bind];rw [qjz hu hinf hb,hs];rfl
     ·rw [← hsz,Nat.add_mul];rfl
    ·exact qaa hob
   | _=>exact qaa hob
theorem q36 (em:Emb Γ S a w) (sp:Spec) (base:Nat) {tx ti:Option Ty} {x i:Operand} {x' i':Od} (hx:cOd tx x=some x') (hi:cOd ti i=some i') {t e:TypeId} {te:Ty} {l:Nat}
  (hu:P.underlying t=some (.array l e)) (ht:tyS P e=some te)
  {o:Oper} (ho:o.op=.indexAddr t x i)
  (hob:allP (aeff sp base S.T S.H (.ixa l te x' i')).ob):Does P Γ S.H w (aeff sp base S.T S.H (.ixa l te x' i')) ((execOp a.eval o).run P w):=by
 have r1:=qaj em hx;have r2:=qaj em hi;obtain ⟨inf,d,hinf,_,hs,_⟩:=qbd ht;rw [aeff] at hob ⊢;obtain ⟨p,hob⟩:=qbh hob;have r2:=qah r2 p
 revert hob
 show allP (Ef.ob (match asInt (peel (ev S.T i')).2 with | some (_,n)=>_ | none=>_))→Does P Γ S.H w (match asInt (peel (ev S.T i')).2 with | some (_,n)=>_ | none=>_) _
 cases h1:asInt (peel (ev S.T i')).2 with
 | none=>exact fun hob=>qaa hob
 | some u =>
  obtain ⟨k,n⟩:=u;have e2:=qbe h1 r2;intro hob;obtain ⟨q,hob⟩:=qbh hob;have r1:=qah r1 q
  revert hob
  show allP (Ef.ob (match (peel (ev S.T x')).2 with | .val (.ptr t) y=>_ | .ref b s i0 o=>_ | _=>_))→Does P Γ S.H w (match (peel (ev S.T x')).2 with | .val (.ptr t) y=>_ | .ref b s i0 o=>_ | _=>_) _
  generalize (peel (ev S.T x')).2=X at r1;intro hob
  cases X with
  | val T y =>
   cases T with
   | ptr T =>
    simp only at hob ⊢
    cases hc:qa9 T (arrT l te) y with
    | none=>rw [hc] at hob;exact qaa hob
    | some z =>
     rw [hc] at hob;simp only at hob ⊢;obtain ⟨rfl,rfl⟩:=qat hc;have hb:=allP_one.1 hob;obtain ⟨b,off,c,hv,g1,g2,g3⟩:=qeh.1 (Ra_val.1 r1);obtain ⟨k1,_⟩:=qgt l _ n.toNat c g2 (qrd hb);refine Does.val em.heap (v:=.pointer (some ⟨b,off+n.toNat*sz te,none⟩)) ?_ rfl (Ra_val.2 (qeh.2 ⟨b,_,_,rfl,g1,k1,g3.part _ (sz te)⟩));simp only [execOp,ho,hv,e2,Sem.run_bind];rw [qf6 hu hinf hb,hs];rfl
   | _=>exact qaa hob
  | ref b s i0 o' =>
   obtain ⟨h3,hv⟩:=qc3.1 r1;have hrun:∀ hb:0≤n∧n<(l:Int),(execOp a.eval o).run P w=.ok (.value (.pointer (some ⟨Γ.ν b,i0*s+o'+n.toNat*sz te,none⟩))) w:=fun hb=>by
    simp only [execOp,ho,hv,e2,Sem.run_bind];rw [qf6 hu hinf hb,hs];rfl
   simp only at hob ⊢;split
   ·rename_i h;rw [if_pos h] at hob;subst h;exact Does.val em.heap (hrun (allP_one.1 hob)) rfl (qc3.2 ⟨h3,by congr 3;omega⟩)
   ·rename_i h;rw [if_neg h] at hob;exact Does.val em.heap (hrun (allP_one.1 hob)) rfl (qc3.2 ⟨h3,by congr 3;omega⟩)
  | _=>exact qaa hob
theorem q3x (em:Emb Γ S a w) (sp:Spec) (base:Nat) {tx ti:Option Ty} {x i:Operand} {x' i':Od} (hx:cOd tx x=some x') (hi:cOd ti i=some i') {t e:TypeId} {te:Ty} {l:Nat}
  (hu:P.underlying t=some (.array l e)) (ht:tyS P e=some te)
  {o:Oper} (ho:o.op=.index t x i)
  (hob:allP (aeff sp base S.T S.H (.ixv l te x' i')).ob):Does P Γ S.H w (aeff sp base S.T S.H (.ixv l te x' i')) ((execOp a.eval o).run P w):=by
 have r1:=qaj em hx;have r2:=qaj em hi;obtain ⟨inf,d,hinf,_,hs,_⟩:=qbd ht;rw [aeff] at hob ⊢;obtain ⟨p,hob⟩:=qbh hob;have r2:=qah r2 p
 revert hob
 show allP (Ef.ob (match asInt (peel (ev S.T i')).2 with | some (_,n)=>_ | none=>_))→Does P Γ S.H w (match asInt (peel (ev S.T i')).2 with | some (_,n)=>_ | none=>_) _
 cases h1:asInt (peel (ev S.T i')).2 with
 | none=>exact fun hob=>qaa hob
 | some u =>
  obtain ⟨k,n⟩:=u;have e2:=qbe h1 r2;intro hob;obtain ⟨q,hob⟩:=qbh hob;have r1:=qah r1 q
  revert hob
  dsimp only [p1]
  cases h2:asD (arrT l te) (peel (ev S.T x')).2 with
  | none=>exact fun hob=>qaa hob
  | some z =>
   intro hob;have hb:=allP_one.1 hob;obtain ⟨cs,hc,hv⟩:=qeb h2 r1;have hag:isAgg (arrT l te)=true:=by cases l<;>rfl
   simp only [mkV,hag,if_true] at hv;obtain ⟨k1,_⟩:=qgt l z n.toNat cs hc (qrd hb);refine Does.val em.heap (v:=mkV te ((cs.drop (n.toNat*sz te)).take (sz te))) ?_ rfl (Ra_val.2 ⟨_,k1,rfl⟩);have hp:=qdk (P:=P) ht (cs:=cs.toArray) (off:=n.toNat*sz te) (by simpa using k1)
   simp only [execOp,ho,hv,e2,Sem.run_bind];have:(Instr.index t (.agg cs.toArray) (.int k n)).run P w=(part e cs.toArray (n.toNat*sz te)).run P w:=by
    simp [Instr.index,asIntOf,run_underlying hu,hb.1,hb.2,sizeOf,typeInfo,hinf,hs]
   rw [this,hp];simp
theorem q43 (em:Emb Γ S a w) (sp:Spec) (base:Nat) {tx:Option Ty} {x:Operand} {x':Od} (hx:cOd tx x=some x') {i:Nat}
  {o:Oper} (ho:o.op=.extract x i)
  (hob:allP (aeff sp base S.T S.H (.ext x' i)).ob):Does P Γ S.H w (aeff sp base S.T S.H (.ext x' i)) ((execOp a.eval o).run P w):=by
 have r1:=qaj em hx;rw [aeff] at hob ⊢;obtain ⟨p,hob⟩:=qbh hob;have r1:=qah r1 p
 revert hob
 show allP (Ef.ob (match (peel (ev S.T x')).2 with | .tup l=>_ | _=>_))→Does P Γ S.H w (match (peel (ev S.T x')).2 with | .tup l=>_ | _=>_) _
 generalize (peel (ev S.T x')).2=X at r1;intro hob
 cases X with
 | tup l =>
  simp only at hob ⊢
  cases hl:(ofAV l)[i]? with
  | none=>rw [hl] at hob;exact qaa hob
  | some y =>
   simp only [Ra,Rp,wa0,and_true] at r1;obtain ⟨us,hv,hr⟩:=r1;obtain ⟨v,hv2,hr2⟩:=qo2 hr i y hl;refine Does.val em.heap (v:=v) ?_ rfl hr2;simp [execOp,ho,hv,Instr.extract,hv2]
 | _=>exact qaa hob
theorem q5v (em:Emb Γ S a w) (sp:Spec) (base:Nat) {tx:Option Ty} {x:Operand} {x':Od} (hx:cOd tx x=some x') {t e:TypeId} (hu:P.underlying t=some (.slice e))
  {o:Oper} (ho:(execOp a.eval o).run P w=((Builtin.len_ #[t] o.type #[a.eval x]).run P w).andThen fun v w'=>.ok (.value v) w')
  (hob:allP (aeff sp base S.T S.H (.len x')).ob):Does P Γ S.H w (aeff sp base S.T S.H (.len x')) ((execOp a.eval o).run P w):=by
 have r1:=qaj em hx;rw [aeff] at hob ⊢;obtain ⟨p,hob⟩:=qbh hob;have r1:=qah r1 p;have hrun:∀ ad n c,a.eval x=.slice ad n c→(execOp a.eval o).run P w=.ok (.value (.int .i64 n)) w:=fun ad n c hv=>by
  rw [ho,hv];simp [Builtin.len_,run_underlying hu,goInt]
 revert hob
 show allP (Ef.ob (match (peel (ev S.T x')).2 with | .val (.slice e) xs=>_ | .vsl _ xs _=>_ | .sl _ _ _ len _=>_ | _=>_))→Does P Γ S.H w (match (peel (ev S.T x')).2 with | .val (.slice e) xs=>_ | .vsl _ xs _=>_ | .sl _ _ _ len _=>_ | _=>_) _
 generalize (peel (ev S.T x')).2=X at r1;intro hob
 cases X with
 | val T y =>
  cases T with
  | slice T =>
   obtain ⟨ad,cap,hv,_⟩:=qb0.1 (Ra_val.1 r1);exact Does.val em.heap (hrun _ _ _ hv) rfl (qcq.2 rfl)
  | _=>exact qaa hob
 | vsl T xs c =>
  obtain ⟨ad,hv,_⟩:=qj0.1 r1;exact Does.val em.heap (hrun _ _ _ hv) rfl (qcq.2 rfl)
 | sl b s i len c =>
  obtain ⟨_,off,cap,hv,_⟩:=qca.1 r1;exact Does.val em.heap (hrun _ _ _ hv) rfl (qcq.2 rfl)
 | _=>exact qaa hob
end
theorem qp2 {s t:Ty} (h:qe2 s t=true) (ht:isAgg t=false):t=s:=by
 cases t<;>simp [qe2,isAgg] at h ht<;>exact h
section
variable {P:Program} {Γ:Cx} {H:List Hs} {w:World} {S:St} {a:Act}
theorem qcl {t:Ty} {x:Den t}:qa9 t t x=some x:=by simp [qa9]
theorem RepC.one {t:Ty} (h:isAgg t=false):sz t=1:=by cases t<;>simp [isAgg] at h<;>rfl
theorem qw5 {b:Nat} {te:Ty} {xs:List (Den te)} {opn:Bool} (h:RepB w Γ b (.arr te xs opn)) {i:Nat} {x:Den te} (hx:xs[i]?=some x) :
  ∃ cs,RepC w Γ.I te x cs∧qa1 w (Γ.ν b) (i*sz te) cs:=by
 simp only [RepB] at h;obtain ⟨h3,h4,h⟩:=h;have hk:Γ.κ b≠0:=fun hk=>by
  rcases Nat.lt_or_ge i xs.length with h' | h'
  ·omega
  ·rw [wac h'] at hx;cases hx
 obtain ⟨c,el,h1,h2,h5⟩:=h hk;obtain ⟨cs,g1,g2⟩:=h5 i x hx;refine ⟨cs,g1,fun j v hj=>?_⟩
 simp only [World.cell?,h1,Option.isSome_none,wa2,if_false];exact g2 j v hj
def ArrE (w:World) (Γ:Cx) (b:Nat) (te:Ty) (xs:List (Den te)):Prop:=∀ (i:Nat) (x:Den te),xs[i]?=some x→∃ cs,RepC w Γ.I te x cs∧qa1 w (Γ.ν b) (i*sz te) cs
theorem RepB.arrE {b:Nat} {te:Ty} {xs:List (Den te)} {opn:Bool} (h:RepB w Γ b (.arr te xs opn)):ArrE w Γ b te xs:=fun _ _ hx=>qw5 h hx
theorem EmbH.resE (e:EmbH Γ H w) {b:Nat} {te:Ty} {xs:List (Den te)} {opn:Bool} (h:hres H b=some (.arr te xs opn)):ArrE w Γ b te xs:=by
 rcases e.res h with h | ⟨t,h⟩
 ·exact h.arrE
 ·cases h;exact fun i x hx=>by simp at hx
theorem qu8 {te:Ty} {xs:List (Den te)} {i:Nat} (h:i<xs.length):xs.getD i (dflt te)=xs[i]:=by
 rw [waa,wab h];rfl
theorem qyj {b:Nat} {te:Ty} {xs:List (Den te)} (h:ArrE w Γ b te xs) (h1:sz te=1) {i:Nat} (hi:i<xs.length) :
  ∃ cs,RepC w Γ.I te ((qa9 te te (xs.getD i (dflt te))).getD (dflt te)) cs∧qa1 w (Γ.ν b) i cs:=by
 obtain ⟨cs,g1,g2⟩:=h _ _ (wab hi);refine ⟨cs,?_,by simpa [h1] using g2⟩
 have e:xs.getD i (dflt te)=xs[i]:=by rw [waa,wab hi];rfl
 rw [e,qcl];exact g1
theorem quq {te:Ty} {xs:List (Den te)} {i:Nat} (h:isAgg te=false):qek te te xs i=(qa9 te te (xs.getD i (dflt te))).getD (dflt te):=by
 cases te<;>first | rfl | (simp [isAgg] at h)
theorem qcd {b:Nat} {te t:Ty} {xs:List (Den te)} (h:ArrE w Γ b te xs) {i:Nat} (hh:qe2 te t=true) (ht:isAgg t=false) (hi:i+sz t≤xs.length) :
  ∃ cs,RepC w Γ.I t (qek te t xs i) cs∧qa1 w (Γ.ν b) i cs:=by
 have e:=qp2 hh ht;subst e;rw [RepC.one ht] at hi;rw [quq ht];exact qyj h (RepC.one ht) hi
theorem qdx {b:Nat} {te:Ty} {xs:List (Den te)} (h:ArrE w Γ b te xs) (h1:sz te=1):∀ (t:Ty) (i:Nat),qe2 te t=true→i+sz t≤xs.length →
  ∃ cs,RepC w Γ.I t (qek te t xs i) cs∧qa1 w (Γ.ν b) i cs
 | .unit,i,_,_=>⟨[],by simp only [RepC],fun j v hj=>by simp at hj⟩
 | .prod p q,i,hh,hi=>by
  have hh':qe2 te p=true∧qe2 te q=true:=by simpa only [qe2,wa3] using hh
  have hi':i+(sz p+sz q)≤xs.length:=hi;obtain ⟨c1,g1,g2⟩:=qdx h h1 p i hh'.1 (by omega)
  obtain ⟨c2,k1,k2⟩:=qdx h h1 q (i+sz p) hh'.2 (by omega)
  have hl:=RepC.length _ _ _ g1;refine ⟨c1++c2,?_,qa1.app.2 ⟨g2,?_⟩⟩
  ·show ∃ d1 d2,c1++c2=d1++d2∧RepC w Γ.I p (qek te p xs i) d1∧RepC w Γ.I q (qek te q xs (i+sz p)) d2;exact ⟨c1,c2,rfl,g1,k1⟩
  ·rw [hl];exact k2
 | .int k,i,hh,hi=>qcd h hh rfl hi
 | .bool,i,hh,hi=>qcd h hh rfl hi
 | .slice e',i,hh,hi=>qcd h hh rfl hi
 | .ptr e',i,hh,hi=>qcd h hh rfl hi
 | .optr e',i,hh,hi=>qcd h hh rfl hi
 | .map k v,i,hh,hi=>qcd h hh rfl hi
 | .oth,i,hh,hi=>qcd h hh rfl hi
theorem qct {t:Ty} {x:AV} {y:Den t} {v:Value} (h:qz8 t x=some y) (hr:Ra w Γ x v) (ht:isAgg t=false):RepC w Γ.I t y [v]:=by
 unfold qz8 at h;have key:RepV w Γ.I t y v→RepC w Γ.I t y [v]:=fun ⟨cs,hc,hv⟩=>by
  have hl:=RepC.length _ _ _ hc;rw [RepC.one ht] at hl
  match cs,hl,hc,hv with
  | [u],_,hc,hv=>simp only [mkV,ht,wa2,if_false,List.headD_cons] at hv;subst hv;exact hc
 split at h
 ·obtain ⟨rfl,rfl⟩:=qat h;exact key (Ra_val.1 hr)
 ·rename_i t' xs c;obtain ⟨e,he⟩:=qat h;subst e;subst he;obtain ⟨ad,h1,h2,h3,h4⟩:=qj0.1 hr;exact key (qb0.2 ⟨ad,c,h1,h2,h3,h4⟩)
 ·obtain ⟨e,he⟩:=qat h;subst e;subst he;have hv:v=.slice none 0 0:=by simpa using hr.2.1 rfl
  subst hv;exact key (qb0.2 ⟨none,0,rfl,wad _,fun _=>rfl,fun i x hx=>by simp at hx⟩)
 ·rename_i b e x;obtain ⟨e',he⟩:=qat h;subst e';subst he
  cases b with
  | true =>
   have hv:v=.slice none 0 0:=by simpa using hr.2.1 rfl
   subst hv;exact key (qb0.2 ⟨none,0,rfl,wad _,fun _=>rfl,fun i x hx=>by simp [wbb] at hx;cases hx⟩)
  | false=>exact key (Ra_val.1 (hr.2.2 rfl).1)
 ·cases h
theorem qeg:∀ (t:Ty) (vs:List AV) (cs:List Value) (x:Den t),qci t vs=some x→Fa w Γ vs cs→RepC w Γ.I t x cs
 | .unit,vs,cs,x,h,hf=>by
  simp only [qci] at h;split at h
  ·cases cs with
   | nil=>simp only [RepC]
   | cons=>exact hf.elim
  ·cases h
 | .prod p q,vs,cs,x,h,hf=>by
  rw [qci] at h
  cases h1:qci p (vs.take (sz p)) with
  | none=>rw [h1] at h;cases h
  | some y=>cases h2:qci q (vs.drop (sz p)) with
   | none=>rw [h1,h2] at h;cases h
   | some z =>
    rw [h1,h2] at h;cases h;simp only [RepC];exact ⟨_,_,(List.take_append_drop _ _).symm,qeg p _ _ _ h1 (hf.take _),qeg q _ _ _ h2 (hf.drop _)⟩
 | .int k,vs,cs,x,h,hf=>by
  simp only [qci] at h;split at h
  ·match cs,hf with
   | [v],hf=>exact qct h hf.1 rfl
   | [],hf=>exact hf.elim
   | _::_::_,hf=>exact hf.2.elim
  ·cases h
 | .bool,vs,cs,x,h,hf=>by
  simp only [qci] at h;split at h
  ·match cs,hf with
   | [v],hf=>exact qct h hf.1 rfl
   | [],hf=>exact hf.elim
   | _::_::_,hf=>exact hf.2.elim
  ·cases h
 | .slice e,vs,cs,x,h,hf=>by
  simp only [qci] at h;split at h
  ·match cs,hf with
   | [v],hf=>exact qct h hf.1 rfl
   | [],hf=>exact hf.elim
   | _::_::_,hf=>exact hf.2.elim
  ·cases h
 | .ptr e,vs,cs,x,h,hf=>by
  simp only [qci] at h;split at h
  ·match cs,hf with
   | [v],hf=>exact qct h hf.1 rfl
   | [],hf=>exact hf.elim
   | _::_::_,hf=>exact hf.2.elim
  ·cases h
 | .optr e,vs,cs,x,h,hf=>by
  simp only [qci] at h;split at h
  ·match cs,hf with
   | [v],hf=>exact qct h hf.1 rfl
   | [],hf=>exact hf.elim
   | _::_::_,hf=>exact hf.2.elim
  ·cases h
 | .map k v,vs,cs,x,h,hf=>by
  simp only [qci] at h;split at h
  ·match cs,hf with
   | [v],hf=>exact qct h hf.1 rfl
   | [],hf=>exact hf.elim
   | _::_::_,hf=>exact hf.2.elim
  ·cases h
 | .oth,vs,cs,x,h,hf=>by
  simp only [qci] at h;split at h
  ·match cs,hf with
   | [v],hf=>exact qct h hf.1 rfl
   | [],hf=>exact hf.elim
   | _::_::_,hf=>exact hf.2.elim
  ·cases h
theorem q0r {t:TypeId} {ty:Ty} (ht:tyS P t=some ty):(Go.isAgg t).run P w=.ok (isAgg ty) w:=by
 obtain ⟨i,d,hi,hu,hs,ha⟩:=qbd ht;rw [← ha];unfold Go.isAgg;simp only [Sem.run_bind,run_underlying hu,wbp];cases d<;>rfl
theorem qiv {t:TypeId} {ty:Ty} (ht:tyS P t=some ty) {b off:Nat} {cs:List Value} (hl:cs.length=sz ty) (hc:qa1 w b off cs) :
  (loadVar t ⟨b,off,none⟩).run P w=.ok (mkV ty cs) w:=by
 obtain ⟨i,d,hi,hu,hs,ha⟩:=qbd ht;unfold loadVar mkV;simp only [Sem.run_bind,q0r ht,wbp]
 cases hag:isAgg ty with
 | true =>
  simp only [if_true,Sem.run_bind,sizeOf,typeInfo,run_program,wbp,hi,Sem.run_pure,hs];have:=run_loadCells_list (P:=P) w ⟨b,off,none⟩ cs (fun j v hj=>by rw [qbv];exact hc j v hj)
  rw [hl] at this;rw [this];rfl
 | false =>
  rw [RepC.one hag] at hl
  match cs,hl,hc with
  | [v],_,hc =>
   simp only [wa2,if_false,run_load];have:=hc 0 v rfl;rw [Nat.add_zero] at this;rw [this];rfl
theorem qnd {b:Nat} {vs:List AV} (h:RepB w Γ b (.cells vs)) (j n:Nat):∃ cs,Fa w Γ ((vs.drop j).take n) cs∧qa1 w (Γ.ν b) j cs:=by
 simp only [RepB] at h;obtain ⟨_,c,el,h1,h2,h3⟩:=h;have hf:Fa w Γ vs c.toList:=Fa.of_get (by simp [h2]) fun i x hx=>by
  obtain ⟨v,g1,_,g3⟩:=h3 i x hx;exact ⟨v,by simpa using g1,g3⟩
 refine ⟨(c.toList.drop j).take n,(hf.drop j).take n,fun k v hk=>?_⟩
 have h4:(c.toList.drop j)[k]?=some v:=by
  rw [wat] at hk;split at hk
  ·exact hk
  ·cases hk
 rw [wbl] at h4;simp only [World.cell?,h1,Option.isSome_none,wa2,if_false];simpa using h4
theorem qyu {b:Nat} {vs:List AV} (h:RepB w Γ b (.cells vs)) (j n:Nat):∃ cs,Fa w Γ ((vs.drop j).take n) cs∧qa1 w (Γ.ν b) j cs∧∀ u∈cs,u.oneCell'=true:=by
 simp only [RepB] at h;obtain ⟨_,c,el,h1,h2,h3⟩:=h;have hf:Fa w Γ vs c.toList:=Fa.of_get (by simp [h2]) fun i x hx=>by
  obtain ⟨v,g1,_,g3⟩:=h3 i x hx;exact ⟨v,by simpa using g1,g3⟩
 refine ⟨(c.toList.drop j).take n,(hf.drop j).take n,fun k v hk=>?_,fun u hu=>?_⟩
 ·have h4:(c.toList.drop j)[k]?=some v:=by
   rw [wat] at hk;split at hk
   ·exact hk
   ·cases hk
  rw [wbl] at h4;simp only [World.cell?,h1,Option.isSome_none,wa2,if_false];simpa using h4
 ·have hu:=List.mem_of_mem_drop (List.mem_of_mem_take hu);obtain ⟨i,hi,rfl⟩:=List.getElem_of_mem hu;have hi':i<vs.length:=by rw [← h2];simpa using hi
  obtain ⟨v,g1,g2,_⟩:=h3 i _ (wab hi');rw [← Array.getElem?_toList,wab hi] at g1;rw [Option.some.inj g1];exact g2
theorem qfz {t:Ty} {x:Den t} {cs:List Value} (h:RepC w Γ.I t x cs):Ra w Γ (.val t x) (mkV t cs):=Ra_val.2 ⟨cs,h,rfl⟩
theorem qoy (em:Emb Γ S a w) {x:Operand} {t:TypeId} {ty:Ty} (ht:tyS P t=some ty)
  {o:Oper} (ho:o.op=.load t x) {X:AV} (r1:Ra w Γ X (a.eval x)) (hob:allP (qea S.H ty X).ob):Does P Γ S.H w (qea S.H ty X) ((execOp a.eval o).run P w):=by
 have hrun:∀ b off cs,a.eval x=.pointer (some ⟨b,off,none⟩)→cs.length=sz ty→qa1 w b off cs→(execOp a.eval o).run P w=.ok (.value (mkV ty cs)) w:=fun b off cs hv hl hc=>by
  simp only [execOp,ho,hv,Instr.loadAt,Instr.sureAddr,Sem.run_bind,Sem.run_pure,wbp,qiv ht hl hc]
 unfold qea at hob ⊢
 cases X with
 | val T y =>
  cases T with
  | ptr T =>
   simp only at hob ⊢
   cases hc:qa9 T ty y with
   | none=>rw [hc] at hob;exact qaa hob
   | some z =>
    obtain ⟨rfl,rfl⟩:=qat hc;obtain ⟨b,off,c,hv,g1,g2,g3⟩:=qeh.1 (Ra_val.1 r1);exact Does.val em.heap (hrun b off c hv (RepC.length _ _ _ g2) g3) rfl (qfz g2)
  | _=>exact qaa hob
 | ref b s i o' =>
  obtain ⟨h3,hv⟩:=qc3.1 r1;simp only at hob ⊢
  cases hg:hres S.H b with
  | none=>rw [hg] at hob;exact qaa hob
  | some B =>
   rw [hg] at hob
   cases B with
   | cells vs =>
    have hB:=(em.heap.res hg).resolve_right fun ⟨_,h⟩=>by cases h
    simp only at hob ⊢
    cases hag:isAgg ty with
    | true =>
     rw [hag] at hob;simp only [if_true] at hob ⊢
     cases hof:qci ty ((vs.drop (i*s+o')).take (sz ty)) with
     | none =>
      rw [hof] at hob;simp only at hob ⊢
      cases hln:Nat.beq ((vs.drop (i*s+o')).take (sz ty)).length (sz ty) with
      | false=>rw [hln] at hob;exact qaa hob
      | true =>
       obtain ⟨cs,g1,g2,g3⟩:=qyu hB (i*s+o') (sz ty);refine Does.val em.heap (hrun _ _ cs hv (by rw [← g1.length];exact wai hln) g2) rfl ?_
       simp only [Ra,Rp,wa0,and_true,mkV,hag,if_true];exact ⟨cs,rfl,qds.2 g1,g3⟩
     | some z =>
      obtain ⟨cs,g1,g2⟩:=qnd hB (i*s+o') (sz ty);have g3:=qeg ty _ _ z hof g1;exact Does.val em.heap (hrun _ _ cs hv (RepC.length _ _ _ g3) g2) rfl (qfz g3)
    | false =>
     rw [hag] at hob;simp only [wa2,if_false] at hob ⊢
     cases hof:vs[i*s+o']? with
     | none=>rw [hof] at hob;exact qaa hob
     | some z =>
      simp only [RepB] at hB;obtain ⟨_,c,el,k1,k2,k3⟩:=hB;obtain ⟨v,m1,m2,m3⟩:=k3 _ z hof;have hl:([v]:List Value).length=sz ty:=by rw [RepC.one hag];rfl
      refine Does.val em.heap (v:=v) ?_ rfl m3;rw [hrun _ _ [v] hv hl ?_]
      ·simp [mkV,hag]
      ·intro j u hj
       cases j with
       | zero =>
        simp at hj;subst hj;simp only [World.cell?,k1,Option.isSome_none,wa2,if_false,Nat.add_zero];exact m1
       | succ j=>simp at hj
   | arr te xs opn =>
    have hB:=em.heap.resE hg;simp only at hob ⊢
    by_cases hs:s=sz te
    ·rw [if_pos hs] at hob ⊢;have elem:∀ (hlt:i<xs.length),∃ cs,RepC w Γ.I te xs[i] cs∧qa1 w (Γ.ν b) (i*sz te) cs:=fun hlt=>hB _ _ (wab hlt)
     cases hc:(if o'=0 then qda te ty xs else none) with
     | some ys =>
      rw [hc] at hob;simp only at hob ⊢
      by_cases h0:o'=0
      ·rw [if_pos h0] at hc;obtain ⟨e,he⟩:=qat (t:=.slice te) (t':=.slice ty) hc;cases e;subst he;have hlt:=allP_one.1 hob;obtain ⟨cs,g1,g2⟩:=elem hlt;subst h0;refine Does.val em.heap (hrun _ _ cs hv (RepC.length _ _ _ g1) (by rw [hs];exact g2)) rfl ?_
       have:=qfz g1;rw [← qu8 hlt] at this;exact this
      ·rw [if_neg h0] at hc;cases hc
     | none =>
      rw [hc] at hob;simp only at hob ⊢
      by_cases hcond:o'=0∧sz te=1∧qe2 te ty=true
      ·rw [if_pos hcond] at hob ⊢;obtain ⟨c1,c2,c3⟩:=hcond;obtain ⟨cs,g1,g2⟩:=qdx hB c2 ty i c3 (allP_one.1 hob);refine Does.val em.heap (hrun _ _ cs hv (RepC.length _ _ _ g1) ?_) rfl (qfz g1);rw [hs,c1,c2];simpa using g2
      ·rw [if_neg hcond] at hob ⊢
       cases hsub:sub te o' ty (xs.getD i (dflt te)) with
       | none=>rw [hsub] at hob;exact qaa hob
       | some z =>
        rw [hsub] at hob;have hlt:=allP_one.1 hob;obtain ⟨cs,g1,g2⟩:=elem hlt;rw [waa,wab hlt] at hsub;obtain ⟨k1,k2⟩:=qg5 te o' xs[i] z cs hsub g1;refine Does.val em.heap (hrun _ _ _ hv (RepC.length _ _ _ k1) ?_) rfl (qfz k1);rw [hs];exact g2.part o' (sz ty)
    ·rw [if_neg hs] at hob;exact qaa hob
   | map k v es=>exact qaa hob
   | pmap k v es=>exact qaa hob
   | nest _ _ _=>exact qaa hob
   | mix pre te xs =>
    have hB:=(em.heap.res hg).resolve_right fun ⟨_,h⟩=>by cases h
    simp only at hob ⊢
    by_cases hs:s=1∧isAgg ty=false
    case neg=>rw [if_neg hs] at hob;exact qaa hob
    rw [if_pos hs] at hob ⊢;obtain ⟨rfl,hag⟩:=hs;obtain ⟨hte,hBc⟩:=qd0.1 hB;simp only [RepB] at hBc;obtain ⟨_,c,el,k1,k2,k3⟩:=hBc;have cell:∀ (j:Nat) (z:AV) (ob:List Prop) (rd:List Nat),i*1+o'=j→(mixL pre te xs)[j]?=some z→Does P Γ S.H w ⟨ob,z,[],rd⟩ ((execOp a.eval o).run P w):=fun j z ob rd hj hz=>by
     obtain ⟨v,m1,m2,m3⟩:=k3 _ z hz;have hl:([v]:List Value).length=sz ty:=by rw [RepC.one hag];rfl
     refine Does.val em.heap (v:=v) ?_ rfl m3;rw [hrun _ _ [v] hv hl ?_]
     ·simp [mkV,hag]
     ·intro j' u hj'
      cases j' with
      | zero =>
       simp at hj';subst hj';simp only [World.cell?,k1,Option.isSome_none,wa2,if_false,Nat.add_zero,hj];exact m1
      | succ j'=>simp at hj'
    have el':∀ (n:Nat) (rd:List Nat),i*1+o'=pre.length+n→allP (qye rd ty n te xs).ob→Does P Γ S.H w (qye rd ty n te xs) ((execOp a.eval o).run P w):=fun n rd hn hob2=>by
     unfold qye at hob2 ⊢
     cases hc:qda te ty xs with
     | none=>rw [hc] at hob2;exact qaa hob2
     | some ys =>
      rw [hc] at hob2;obtain ⟨e,he⟩:=qat (t:=.slice te) (t':=.slice ty) hc;cases e;subst he;have hlt:=allP_one.1 hob2;refine cell _ _ _ _ hn ?_;unfold mixL;rw [wag (by omega),Nat.add_sub_cancel_left,wao,wab hlt,qu8 hlt]
      rfl
    unfold qta at hob ⊢
    cases o' with
    | zero =>
     simp only at hob ⊢
     cases hb:Nat.ble pre.length i with
     | false =>
      rw [hb] at hob;simp only at hob ⊢
      cases hof:pre[i]? with
      | none=>rw [hof] at hob;exact qaa hob
      | some z =>
       refine cell i z _ _ (by omega) ?_
       unfold mixL;rw [waf (List.getElem?_eq_some_iff.1 hof).1];exact hof
     | true =>
      rw [hb] at hob;have:=Nat.le_of_ble_eq_true hb;exact el' _ _ (by omega) hob
    | succ o' =>
     simp only at hob ⊢
     cases hb:Nat.beq (o'+1) pre.length with
     | false=>rw [hb] at hob;exact qaa hob
     | true =>
      rw [hb] at hob;have:=wai hb;exact el' _ _ (by omega) hob
 | _=>exact qaa hob
theorem qzn (em:Emb Γ S a w) (sp:Spec) (base:Nat) {tx:Option Ty} {x:Operand} {x':Od} (hx:cOd tx x=some x') {t:TypeId} {ty:Ty} (ht:tyS P t=some ty)
  {o:Oper} (ho:o.op=.load t x)
  (hob:allP (aeff sp base S.T S.H (.load ty x')).ob):Does P Γ S.H w (aeff sp base S.T S.H (.load ty x')) ((execOp a.eval o).run P w):=by
 have r1:=qaj em hx;rw [aeff] at hob ⊢;obtain ⟨p,hob⟩:=qbh hob;have:=qoy em ht ho (qah r1 p) hob;unfold Does at this ⊢;exact this
end
def qbb (c:Array Value) (o:Nat) (L:List Value):Array Value:=(c.toList.take o++L++c.toList.drop (o+L.length)).toArray
theorem qb1 {c:Array Value} {o:Nat} {L:List Value} (h:o+L.length≤c.size):(qbb c o L).size=c.size:=by
 simp only [qbb,List.size_toArray,wae,wan,wav,Array.length_toList];omega
theorem qa2 {c:Array Value} {o:Nat} {L:List Value} (h:o+L.length≤c.size) (k:Nat) :
  (qbb c o L)[k]?=if o≤k∧k<o+L.length then L[k-o]? else c[k]?:=by
 have hl:(c.toList.take o).length=o:=by simp;omega
 simp only [qbb,List.getElem?_toArray]
 by_cases h1:k<o
 ·rw [if_neg (by omega),war,waf (by omega),wat,if_pos h1]
  simp
 ·by_cases h2:k<o+L.length
  ·rw [if_pos ⟨by omega,h2⟩,waf (by simp;omega),wag (by omega),hl]
  ·rw [if_neg (by omega),wag (by simp;omega)]
   simp only [wae,hl,wbl];rw [show o+L.length+(k-(o+L.length))=k by omega]
   simp
theorem qbt {α:Type}:∀ (l:List α) (i:Nat) (vs:List α),(setMany l i vs).length=l.length
 | l,_,[]=>rfl
 | l,i,v::vs=>by simp only [setMany];rw [qbt];simp
theorem qdq {α:Type}:∀ (vs l:List α) (i:Nat),i+vs.length≤l.length→∀ k,(setMany l i vs)[k]?=if i≤k∧k<i+vs.length then vs[k-i]? else l[k]?
 | [],l,i,_,k=>by simp only [setMany,wa9,Nat.add_zero];rw [if_neg (by omega)]
 | v::vs,l,i,h,k=>by
  simp only [wa5] at h ⊢;simp only [setMany];rw [qdq vs (l.set i v) (i+1) (by simp;omega) k]
  by_cases h1:k=i
  ·subst h1;rw [if_neg (by omega),if_pos (by omega),waw]
   simp;omega
  ·by_cases h2:i+1≤k∧k<i+1+vs.length
   ·rw [if_pos h2,if_pos (by omega),show k-i=(k-(i+1))+1 by omega,wa4]
   ·rw [if_neg h2,if_neg (by omega),wah (fun h=>h1 h.symm)]
section
variable {P:Program} {Γ:Cx} {H:List Hs} {w:World} {S:St} {a:Act}
theorem qfn {x:AV} {v:Value} (h:qdz x=true) (hr:Ra w Γ x v):v.oneCell'=true:=by
 cases x with
 | val t y =>
  simp only [qdz,Bool.not_eq_true'] at h;obtain ⟨cs,hc,hv⟩:=Ra_val.1 hr;have hl:=RepC.length _ _ _ hc;rw [RepC.one h] at hl
  match cs,hl,hc,hv with
  | [u],_,hc,hv =>
   simp only [mkV,h,wa2,if_false,List.headD_cons] at hv;subst hv;exact RepC.oneCell _ _ _ hc v (by simp)
 | ref b s i o=>rw [(qc3.1 hr).2];rfl
 | sl b s i len c=>obtain ⟨_,off,cap,hv,_⟩:=qca.1 hr;rw [hv];rfl
 | vsl t xs c=>obtain ⟨ad,hv,_⟩:=qj0.1 hr;rw [hv];rfl
 | mref b=>simp only [Ra,Rp,wa0,and_true] at hr;rw [hr.2];rfl
 | fn f caps=>simp only [Ra,Rp,wa0,and_true] at hr;obtain ⟨us,hv,_⟩:=hr;rw [hv];unfold fnV;cases Nat.ble 4096 f<;>rfl
 | opt b x =>
  cases b with
  | true=>have:=hr.2.1 rfl;simp only [wa0,and_true] at this;rw [this];rfl
  | false=>obtain ⟨ad,n,c,hv⟩:=(hr.2.2 rfl).2;simp only [wa0,and_true] at hv;rw [hv];rfl
 | _=>simp [qdz] at h
theorem qch {v:Value} (h:v.oneCell'=true):v.cells=#[v]:=by cases v<;>simp [Value.oneCell'] at h<;>rfl
theorem qdm:∀ {l:AV} {us:List Value},isL l=true→Rp w Γ l us→Fa w Γ (ofAV l) us
 | .nil,us,_,h=>by simp only [Rp] at h;subst h;trivial
 | .cons x l,us,hl,h=>by
  simp only [Rp] at h;obtain ⟨v,us',rfl,h1,h2⟩:=h;exact ⟨h1,qdm hl h2⟩
 | .undef,_,h,_=>by simp [isL] at h
 | .val ..,_,h,_=>by simp [isL] at h
 | .gd ..,_,h,_=>by simp [isL] at h
 | .opt ..,_,h,_=>by simp [isL] at h
 | .anyb ..,_,h,_=>by simp [isL] at h
 | .ref ..,_,h,_=>by simp [isL] at h
 | .sl ..,_,h,_=>by simp [isL] at h
 | .vsl ..,_,h,_=>by simp [isL] at h
 | .mref ..,_,h,_=>by simp [isL] at h
 | .fn ..,_,h,_=>by simp [isL] at h
 | .tup ..,_,h,_=>by simp [isL] at h
 | .agg ..,_,h,_=>by simp [isL] at h
theorem qd9 {t:Ty} {x:Den t} {cs:List Value} (ht:isAgg t=false) (h:RepC w Γ.I t x cs):Fa w Γ [.val t x] cs:=by
 have hl:=RepC.length _ _ _ h;rw [RepC.one ht] at hl
 match cs,hl,h with
 | [u],_,h=>exact ⟨Ra_val.2 ⟨[u],h,by simp [mkV,ht]⟩,trivial⟩
theorem qgb:∀ (t:Ty) (x:Den t) (cs:List Value),RepC w Γ.I t x cs→Fa w Γ (q0a t x) cs
 | .unit,x,cs,h=>by simp only [RepC] at h;subst h;trivial
 | .prod p q,x,cs,h=>by
  simp only [RepC] at h;obtain ⟨c1,c2,rfl,h1,h2⟩:=h;exact (qgb p _ _ h1).app (qgb q _ _ h2)
 | .int k,x,cs,h=>qd9 rfl h
 | .bool,x,cs,h=>qd9 rfl h
 | .slice e,x,cs,h=>qd9 rfl h
 | .ptr e,x,cs,h=>qd9 rfl h
 | .optr e,x,cs,h=>qd9 rfl h
 | .map k v,x,cs,h=>qd9 rfl h
 | .oth,x,cs,h=>qd9 rfl h
theorem qj4 {t:Ty} {x:AV} {cs:List AV} {v:Value} (h:cellsOf t x=some cs) (hr:Ra w Γ x v) :
  Fa w Γ cs v.cells.toList∧cs.length=sz t∧∀ u∈v.cells.toList,u.oneCell'=true:=by
 unfold cellsOf at h;split at h
 ·rename_i hag;split at h
  ·rename_i t' y
   cases hc:qa9 t' t y with
   | none=>rw [hc] at h;cases h
   | some z =>
    rw [hc] at h;obtain ⟨rfl,rfl⟩:=qat hc;simp only [Option.map_some,waz] at h;subst h;obtain ⟨L,hL,hv⟩:=Ra_val.1 hr;simp only [mkV,hag,if_true] at hv;subst hv;have hf:=qgb _ _ _ hL;exact ⟨hf,by rw [hf.length,RepC.length _ _ _ hL],RepC.oneCell _ _ _ hL⟩
  ·rename_i l;split at h
   ·rename_i hh;cases h;simp only [Ra,Rp,wa0,and_true] at hr;obtain ⟨us,hv,hr,ho⟩:=hr;subst hv;exact ⟨qdm hh.1 hr,hh.2,ho⟩
   ·cases h
  ·cases h
 ·rename_i hag;have hag:isAgg t=false:=by simpa using hag
  split at h
  ·rename_i hs;cases h;have h1:=qfn hs hr;rw [qch h1];exact ⟨⟨hr,trivial⟩,by rw [RepC.one hag];rfl,by simpa using h1⟩
  ·cases h
theorem qe9 {t:TypeId} {ty:Ty} (ht:tyS P t=some ty) {g off:Nat} {cur:Array Value} {el:TypeId} (hg:w.heap[g]?=some (.cells cur el (0,0))) {v:Value}
  (hl:v.cells.toList.length=sz ty) (hfit:off+sz ty≤cur.size) (h1:∀ u∈v.cells.toList,u.oneCell'=true) :
  (storeVar t ⟨g,off,none⟩ v).run P w=.ok () (w.setRow g (qbb cur off v.cells.toList)):=by
 obtain ⟨i,d,hi,hu,hs,ha⟩:=qbd ht;have hst:=run_storeCells_at P g off el v.cells.toList 0 cur w hg (by rw [hl];simpa using hfit) h1
 simp only [Nat.add_zero] at hst;unfold storeVar;have hsz:v.cells.size=i.size:=by rw [hs,← hl];simp
 simp only [Sem.run_bind,sizeOf,typeInfo,run_program,wbp,hi,Sem.run_pure,hsz,ne_eq,not_true_eq_false,if_false,hst,qbb]
theorem qii {b j:Nat} {vs cs:List AV} {L:List Value} (hB:RepB w Γ b (.cells vs)) {w':World} (hw:∀ n,Γ.I n→w'.heap[n]?=w.heap[n]?) (hA:True)
  {c:Array Value} {el:TypeId} (hc:w.heap[Γ.ν b]?=some (.cells c el (0,0))) (hc':w'.heap[Γ.ν b]?=some (.cells (qbb c j L) el (0,0)))
  (hf:Fa w Γ cs L) (h1:∀ u∈L,u.oneCell'=true) (hfit:j+cs.length≤vs.length):RepB w' Γ b (.cells (setMany vs j cs)):=by
 simp only [RepB] at hB ⊢;obtain ⟨hk0,c0,el0,k1,k2,k3⟩:=hB;rw [hc] at k1;cases k1;have hlen:=hf.length;have hfit':j+L.length≤c.size:=by omega
 have mono:∀ (x:AV) (v:Value),Ra w Γ x v→Ra w' Γ x v:=fun x v h=>Rp.mono (fun _ h=>h) hw (fun _ h=>⟨h,rfl,rfl⟩) x _ h
 refine ⟨hk0,_,el,hc',by rw [qb1 hfit',qbt];exact k2,fun i x hx=>?_⟩
 rw [qdq cs vs j hfit i] at hx;rw [qa2 hfit'];split at hx
 ·rename_i hr;rw [if_pos (by omega)]
  obtain ⟨v,hv,hrv⟩:=hf.get (i-j) x hx;exact ⟨v,hv,h1 v (wbi hv),mono x v hrv⟩
 ·rename_i hr;rw [if_neg (by omega)]
  obtain ⟨v,hv,ho,hrv⟩:=k3 i x hx;exact ⟨v,hv,ho,mono x v hrv⟩
theorem qlg {b i:Nat} {te:Ty} {xs:List (Den te)} {opn:Bool} {x:Den te} {L:List Value} (hB:RepB w Γ b (.arr te xs opn)) {w':World} (hw:∀ n,Γ.I n→w'.heap[n]?=w.heap[n]?)
  {c:Array Value} {el:TypeId} (hc:w.heap[Γ.ν b]?=some (.cells c el (0,0))) (hc':w'.heap[Γ.ν b]?=some (.cells (qbb c (i*sz te) L) el (0,0)))
  (hx:RepC w Γ.I te x L) (hi:i<xs.length):RepB w' Γ b (.arr te (xs.set i x) opn):=by
 simp only [RepB] at hB ⊢;obtain ⟨k3,k4,hB⟩:=hB;obtain ⟨c0,el0,k1,k2,k5⟩:=hB (by omega)
 rw [hc] at k1;cases k1;have hlen:=RepC.length _ _ _ hx;have hle:(i+1)*sz te≤Γ.κ b*sz te:=Nat.mul_le_mul_right _ (by omega)
 have hfit:i*sz te+L.length≤c.size:=by rw [Nat.succ_mul] at hle;omega
 refine ⟨by simpa using k3,by simpa using k4,fun _=>⟨_,el,hc',by rw [qb1 hfit];exact k2,fun j y hy=>?_⟩⟩
 by_cases hij:i=j
 ·subst hij;rw [waw] at hy;simp only [if_true,hi] at hy;cases hy;refine ⟨L,RepC.mono (fun _ h=>h) hw te x L hx,fun k v hk=>?_⟩
  have hlt:k<L.length:=by
   rcases Nat.lt_or_ge k L.length with h | h
   ·exact h
   ·rw [wac h] at hk;cases hk
  rw [qa2 hfit,if_pos (by omega),show i*sz te+k-i*sz te=k by omega]
  exact hk
 ·rw [wah hij] at hy;obtain ⟨cs,g1,g2⟩:=k5 j y hy;refine ⟨cs,RepC.mono (fun _ h=>h) hw te y cs g1,fun k v hk=>?_⟩
  have hl2:=RepC.length _ _ _ g1;have hlt:k<cs.length:=by
   rcases Nat.lt_or_ge k cs.length with h | h
   ·exact h
   ·rw [wac h] at hk;cases hk
  rw [qa2 hfit,if_neg]
  ·exact g2 k v hk
  ·rintro ⟨q1,q2⟩
   rcases Nat.lt_or_gt_of_ne hij with h | h
   ·have:(i+1)*sz te≤j*sz te:=Nat.mul_le_mul_right _ h;rw [Nat.succ_mul] at this;omega
   ·have:(j+1)*sz te≤i*sz te:=Nat.mul_le_mul_right _ h;rw [Nat.succ_mul] at this;omega
theorem qdt {te t:Ty} {x:Den t} {L:List Value} (hh:qe2 te t=true) (ht:isAgg t=false) (h:RepC w Γ.I t x L) :
  (qjs te t x).length=L.length∧∀ (k:Nat) (y:Den te),(qjs te t x)[k]?=some y→∃ v,L[k]?=some v∧RepC w Γ.I te y [v]:=by
 have e:=qp2 hh ht;subst e;have e:qjs t t x=[x]:=by cases t<;>first | (simp [isAgg] at ht;done) | (simp only [qjs,qcl])
 have hl:=RepC.length _ _ _ h;rw [RepC.one ht] at hl;rw [e]
 match L,hl,h with
 | [u],_,h =>
  refine ⟨rfl,fun k y hy=>?_⟩
  cases k with
  | zero=>simp at hy;subst hy;exact ⟨u,rfl,h⟩
  | succ k=>simp at hy
theorem qgd (te:Ty):∀ (t:Ty) (x:Den t) (L:List Value),qe2 te t=true→sz te=1→RepC w Γ.I t x L →
  (qjs te t x).length=L.length∧∀ (k:Nat) (y:Den te),(qjs te t x)[k]?=some y→∃ v,L[k]?=some v∧RepC w Γ.I te y [v]
 | .unit,x,L,_,_,h=>by simp only [RepC] at h;subst h;exact ⟨rfl,fun k y hy=>by simp [qjs] at hy⟩
 | .prod p q,x,L,hh,h1,h=>by
  have hh':qe2 te p=true∧qe2 te q=true:=by simpa only [qe2,wa3] using hh
  simp only [RepC] at h;obtain ⟨c1,c2,rfl,g1,g2⟩:=h;obtain ⟨a1,a2⟩:=qgd te p x.1 c1 hh'.1 h1 g1;obtain ⟨b1,b2⟩:=qgd te q x.2 c2 hh'.2 h1 g2;refine ⟨by simp [qjs,a1,b1],fun k y hy=>?_⟩
  change (qjs te p x.1++qjs te q x.2)[k]?=some y at hy
  rcases Nat.lt_or_ge k c1.length with hk | hk
  ·rw [waf (by omega)] at hy
   obtain ⟨v,hv,hr⟩:=a2 k y hy;exact ⟨v,by rw [waf hk];exact hv,hr⟩
  ·rw [wag (by omega),a1] at hy
   obtain ⟨v,hv,hr⟩:=b2 _ y hy;exact ⟨v,by rw [wag hk];exact hv,hr⟩
 | .int k,x,L,hh,h1,h=>qdt hh rfl h
 | .bool,x,L,hh,h1,h=>qdt hh rfl h
 | .slice e,x,L,hh,h1,h=>qdt hh rfl h
 | .ptr e,x,L,hh,h1,h=>qdt hh rfl h
 | .optr e,x,L,hh,h1,h=>qdt hh rfl h
 | .map k v,x,L,hh,h1,h=>qdt hh rfl h
 | .oth,x,L,hh,h1,h=>qdt hh rfl h
theorem qrv {b i:Nat} {te:Ty} {xs ys:List (Den te)} {opn:Bool} {L:List Value} (hB:RepB w Γ b (.arr te xs opn)) (h1:sz te=1) {w':World} (hw:∀ n,Γ.I n→w'.heap[n]?=w.heap[n]?)
  {c:Array Value} {el:TypeId} (hc:w.heap[Γ.ν b]?=some (.cells c el (0,0))) (hc':w'.heap[Γ.ν b]?=some (.cells (qbb c i L) el (0,0)))
  (hx:ys.length=L.length∧∀ (k:Nat) (y:Den te),ys[k]?=some y→∃ v,L[k]?=some v∧RepC w Γ.I te y [v]) (hi:i+L.length≤xs.length):RepB w' Γ b (.arr te (setMany xs i ys) opn):=by
 simp only [RepB] at hB ⊢;obtain ⟨k3,k4,hB⟩:=hB;refine ⟨by rw [qbt];exact k3,by rw [qbt];exact k4,fun hk0=>?_⟩
 obtain ⟨c0,el0,k1,k2,k5⟩:=hB hk0;rw [hc] at k1;cases k1;rw [h1] at k2;have hfit:i+L.length≤c.size:=by omega
 refine ⟨_,el,hc',by rw [qb1 hfit,h1];exact k2,fun j y hy=>?_⟩
 rw [qdq ys xs i (by omega) j] at hy
 split at hy
 ·rename_i hr;obtain ⟨v,hv,hrc⟩:=hx.2 _ y hy;refine ⟨[v],RepC.mono (fun _ h=>h) hw te y _ hrc,fun k u hk=>?_⟩
  cases k with
  | zero =>
   simp at hk;subst hk;rw [qa2 hfit,h1,if_pos (by omega)]
   simpa using hv
  | succ k=>simp at hk
 ·rename_i hr;obtain ⟨cs,g1,g2⟩:=k5 j y hy;refine ⟨cs,RepC.mono (fun _ h=>h) hw te y cs g1,fun k u hk=>?_⟩
  have hl2:=RepC.length _ _ _ g1;have hlt:k<cs.length:=by
   rcases Nat.lt_or_ge k cs.length with h | h
   ·exact h
   ·rw [wac h] at hk;cases hk
  rw [qa2 hfit,if_neg (by rw [h1] at hl2 ⊢;omega)]
  exact g2 k u hk
theorem Does.skip {e:Ef} {r:Result Next} {w':World} {Γ':Cx} {H':List Hs} (h:r=.ok .skip w') (hup:qar H e.up=H') (hx:EmbH Γ' H' w'∧Ext Γ H w Γ' H' w') (hr:Ra w' Γ' e.v undef):Does P Γ H w e r :=
 .inl ⟨undef,w',Γ',.inr ⟨h,rfl⟩,by rw [hup];exact hx.2,by rw [hup];exact hx.1,hr⟩
theorem Does.new {e:Ef} {r:Result Next} {v:Value} {w':World} {Γ':Cx} {H':List Hs} (h:r=.ok (.value v) w') (hup:qar H e.up=H') (hx:EmbH Γ' H' w'∧Ext Γ H w Γ' H' w') (hr:Ra w' Γ' e.v v):Does P Γ H w e r :=
 .inl ⟨v,w',Γ',.inl h,by rw [hup];exact hx.2,by rw [hup];exact hx.1,hr⟩
theorem qbz {g:Nat} {cs:Array Value} {n:Nat} (h:n≠g):(w.setRow g cs).heap[n]?=w.heap[n]?:=setRow_other w g n cs h
theorem EmbH.setRow {b:Nat} {B B':Blk} (e:EmbH Γ H w) (hb:H[b]?=some (.live B)) (hkb:Γ.κ b≠0) {cs:Array Value} (hB:RepB (w.setRow (Γ.ν b) cs) Γ b B') (hnn:∀ t r o,B'=.nest t r o→∃ t r0 o,B=.nest t r0 o∧r.length≤r0.length:=by intro _ _ _ h;cases h) :
  EmbH Γ (H.set b (.live B')) (w.setRow (Γ.ν b) cs)∧Ext Γ H w Γ (H.set b (.live B')) (w.setRow (Γ.ν b) cs) :=
 e.write hb hkb (fun n hn=>qbz hn) (by simp) rfl rfl hB hnn
end
end Go.Ab
