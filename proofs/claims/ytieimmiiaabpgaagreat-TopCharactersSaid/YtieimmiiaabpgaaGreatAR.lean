/- Loops: what a state must look like at the head of a loop,and. -/
import Derived.Test.YtieimmiiaabpgaaGreatAN
import Derived.KernelRfl
set_option linter.unusedVariables false
set_option linter.unusedSimpArgs false
namespace Go.Ab
noncomputable section
inductive TV where
 | u
 | v (t:Ty)
 | sl (j s i:Nat)
 | slf (j s:Nat)
 | ref (j s i o:Nat)
 | mref (j:Nat)
 | fn (f:FuncId) (caps:TV)
 | nil
 | cons (a l:TV)
 | opt (x:TV)
inductive TB where
 | arr (t:Ty) (opn:Bool)
 | cells (l:List TV)
 | map (k v:Ty)
 | dead
 | nest (t:Ty)
 | view (j:Nat)
 | mix (l:List TV) (t:Ty)
def TV.ts:TV→List Ty
 | .v t=>[t]
 | .sl ..=>[.int .i64]
 | .fn _ c=>c.ts
 | .cons a l=>a.ts++l.ts
 | .opt x=>.bool::x.ts
 | _=>[]
def TB.ts:TB→List Ty
 | .arr t _=>[.slice t]
 | .cells l=>l.flatMap TV.ts
 | .map k v=>[.map k v]
 | .dead=>[]
 | .nest t=>[.slice (.slice t)]
 | .view _=>[.int .i64]
 | .mix l t=>.slice t::l.flatMap TV.ts
def tsS (l:List (Nat×TV)):List Ty:=l.flatMap fun p=>p.2.ts
def tsB (l:List TB):List Ty:=l.flatMap TB.ts
def qge:Nat→List AV→List AV
 | 0,l=>l
 | _+1,[]=>[]
 | n+1,_::l=>qge n l
def TV.n:TV→Nat
 | .v _=>1
 | .sl ..=>1
 | .fn _ c=>c.n
 | .cons a l=>Nat.add a.n l.n
 | .opt x=>Nat.succ x.n
 | _=>0
def cntC:List TV→Nat
 | []=>0
 | x::l=>Nat.add x.n (cntC l)
def TB.n:TB→Nat
 | .cells l=>cntC l
 | .dead=>0
 | .mix l _=>Nat.succ (cntC l)
 | _=>1
def cntS:List (Nat×TV)→Nat
 | []=>0
 | x::l=>Nat.add x.2.n (cntS l)
theorem TV.n_eq (x:TV):x.ts.length=x.n:=by
 induction x with
 | fn f c ih=>exact ih
 | cons a l iha ihl=>simp only [TV.ts,TV.n,waf,iha,ihl];rfl
 | opt x ih=>simp only [TV.ts,TV.n,wa6,ih]
 | _=>rfl
theorem qnk:∀ {l:List TV},(l.flatMap TV.ts).length=cntC l
 | []=>rfl
 | x::l=>by rw [wbu,waf,TV.n_eq,qnk];rfl
theorem TB.n_eq (x:TB):x.ts.length=x.n:=by
 cases x with
 | cells l=>exact qnk
 | mix l t=>exact congrArg Nat.succ qnk
 | _=>rfl
theorem qzw:∀ {l:List (Nat×TV)},(tsS l).length=cntS l
 | []=>rfl
 | x::l=>by
  have:=qzw (l:=l);simp only [tsS] at this ⊢;rw [wbu,waf,TV.n_eq,this];rfl
theorem qdb:∀ {h r:List AV} {n:Nat},h.length=n→qge n (h++r)=r
 | [],r,_,rfl=>rfl
 | x::h,r,_,rfl=>qdb (h:=h) rfl
def q68:AV→Int
 | .val (.int _) n=>n
 | _=>0
def qi0 (t:Ty) (a:AV):List (Den t):=(qgg t a).getD []
def q7i (k v:Ty) (a:AV):List (Den k×Den v):=match a with
 | .val t x=>(qbb t (.map k v) x).getD []
 | _=>[]
def q8l:AV→Bool
 | .val .bool b=>b
 | _=>false
def nmAt:List Nat→Nat→Nat
 | [],_=>0
 | x::_,0=>x
 | _::l,j+1=>nmAt l j
def qa5:Nat→Nat→List Nat
 | _,0=>[]
 | a,n+1=>a::qa5 (Nat.succ a) n
def qt1:List TB→List AV→List Nat
 | [],_=>[]
 | b::bs,env=>(match b with
  | .arr t _=>List.length (α:=Den t) (qi0 t (env.headD .undef))
  | .nest t=>List.length (α:=Den (.slice t)) (qi0 (.slice t) (env.headD .undef))
  | _=>0)::qt1 bs (qge b.n env)
def qdq (nm lens:List Nat):TV→List AV→AV
 | .u,_=>.undef
 | .v _,env=>env.headD .undef
 | .sl j s i,env=>.sl (nmAt nm j) s i (q68 (env.headD .undef)).toNat none
 | .slf j s,_=>.sl (nmAt nm j) s 0 (nmAt lens j) none
 | .ref j s i o,_=>.ref (nmAt nm j) s i o
 | .mref j,_=>.mref (nmAt nm j)
 | .fn f c,env=>.fn f (qdq nm lens c env)
 | .nil,_=>.nil
 | .cons a l,env=>.cons (qdq nm lens a env) (qdq nm lens l (qge a.n env))
 | .opt x,env=>.opt (q8l (env.headD .undef)) (qdq nm lens x (qge 1 env))
def qso (nm lens:List Nat):List (Nat×TV)→List AV→List AV→List AV
 | [],_,T=>T
 | (n,tv)::r,env,T=>qso nm lens r (qge tv.n env) (T.set n (qdq nm lens tv env))
def qfw (nm lens:List Nat):List TV→List AV→List AV
 | [],_=>[]
 | tv::r,env=>qdq nm lens tv env::qfw nm lens r (qge tv.n env)
def qdf (nm lens:List Nat) (env:List AV):TB→Hs
 | .arr t opn=>.live (.arr t (qi0 t (env.headD .undef)) opn)
 | .cells l=>.live (.cells (qfw nm lens l env))
 | .map k v=>.live (.map k v (q7i k v (env.headD .undef)))
 | .dead=>.dead
 | .nest t=>.live (.nest t (qi0 (.slice t) (env.headD .undef)) none)
 | .view j=>.view (nmAt nm j) (q68 (env.headD .undef)).toNat false
 | .mix l t=>.live (.mix (qfw nm lens l (qge 1 env)) t (qi0 t (env.headD .undef)))
def qbh (nm lens:List Nat):List TB→List AV→List Hs
 | [],_=>[]
 | b::bs,env=>qdf nm lens env b::qbh nm lens bs (qge b.n env)
def qe1:List Hs→List Hs
 | []=>[]
 | .live _::H=>.dead::qe1 H
 | .view ..::H=>.dead::qe1 H
 | h::H=>h::qe1 H
def qnh:List Nat→List AV→List AV
 | [],T=>T
 | n::l,T=>qnh l (T.set n .undef)
def q2h (asg:List Nat) (sl:List (Nat×TV)) (nm lens:List Nat) (T:List AV) (env:List AV):List AV:=qso nm lens sl env (qnh asg T)
def qtc (k len n:Nat):List Nat:=qa5 0 k++qa5 (len+k) (n-k)
def pinH:Nat→List Hs→List Hs→Nat→List Hs
 | k+1,b::B,_::K,d=>b::pinH k B K (d+1)
 | _,B,K,d=>K++(List.replicate d .dead++B)
def qjy (asg:List Nat) (sl:List (Nat×TV)) (bl:List TB) (k:Nat) (S:St) (env:List AV):St :=
 match qtc k S.H.length bl.length,qge (cntS sl) env with
 | nm,r=>match qt1 bl r with
  | lens=>⟨q2h asg sl nm lens S.T env,pinH k (qbh nm lens bl r) (qe1 S.H) 0⟩
def ql4:TV→AV→List Prop×AV
 | .opt _,x=>qrg x
 | _,x=>peel x
def zde:AV→Bool
 | .vsl _ xs c=>xs.isEmpty && Nat.beq c 0
 | _=>false
def nonN:AV→Option Prop
 | .sl _ _ _ len _=>some (len≠0)
 | .vsl _ xs _=>some (xs.length≠0)
 | .val t xs=>match t,xs with
  | .slice e,xs=>some (List.length (α:=Den e) xs≠0)
  | _,_=>none
 | _=>none
def q36:List Ty→List AV
 | []=>[]
 | t::ts=>.val t (dflt t)::q36 ts
def quc:TV→AV→List (Nat×Nat)
 | .sl j ..,.sl b ..=>[(j,b)]
 | .slf j ..,.sl b ..=>[(j,b)]
 | .ref j ..,.ref b ..=>[(j,b)]
 | .mref j,.mref b=>[(j,b)]
 | .fn _ c,.fn _ d=>quc c d
 | .cons a l,.cons x y=>quc a (ql4 a x).2++quc l y
 | .opt x,y=>match y with
  | .opt _ a=>quc x (peel a).2
  | a=>quc x a
 | _,_=>[]
def qfx:List TV→List AV→List (Nat×Nat)
 | tv::l,v::vs=>quc tv (ql4 tv v).2++qfx l vs
 | _,_=>[]
def q40 (T:List AV):List (Nat×TV)→List (Nat×Nat)
 | []=>[]
 | (n,tv)::r=>quc tv (ql4 tv (T.getD n .undef)).2++q40 T r
def qju (j:Nat):List (Nat×Nat)→Option Nat
 | []=>none
 | p::r=>if Nat.beq j p.1 then some p.2 else qju j r
def qdk (H:List Hs):Nat→List TB→List (Nat×Nat)→List (Nat×Nat)
 | _,[],acc=>acc
 | j,.cells l::bs,acc=>match qju j acc with
  | some b=>match hget H b with
   | some (.cells vs)=>qdk H (j+1) bs (acc++qfx l vs)
   | _=>acc
  | none=>acc
 | j,.mix l _::bs,acc=>match qju j acc with
  | some b=>match hget H b with
   | some (.mix vs _ _)=>qdk H (j+1) bs (acc++qfx l vs)
   | _=>acc
  | none=>acc
 | j,.view k::bs,acc=>match qju j acc with
  | some b=>match H[b]? with
   | some (.view c _ _)=>qdk H (j+1) bs (acc++[(k,c)])
   | _=>acc
  | none=>acc
 | j,_::bs,acc=>qdk H (j+1) bs acc
def rhoL (acc:List (Nat×Nat)):Nat→List TB→List (Option Nat)
 | _,[]=>[]
 | j,_::bs=>qju j acc::rhoL acc (j+1) bs
def isAt (ρ:List (Option Nat)) (j b:Nat):Bool:=match ρ[j]? with
 | some (some c)=>Nat.beq b c
 | _=>false
def isNo (ρ:List (Option Nat)) (j:Nat):Bool:=match ρ[j]? with
 | some none=>true
 | _=>false
def qfi (H:List Hs):List (Option Nat)→List TB→List Nat
 | o::ρ,b::bs=>(match b with
  | .arr _ _=>match o with
   | some b=>match hget H b with
    | some (.arr t xs _)=>List.length (α:=Den t) xs
    | _=>0
   | none=>0
  | .nest _=>match o with
   | some b=>match hget H b with
    | some (.nest t rows _)=>List.length (α:=List (Den t)) rows
    | _=>0
   | none=>0
  | _=>0)::qfi H ρ bs
 | _,_=>[]
def qb9 (ρ:List (Option Nat)) (H:List Hs) (lens:List Nat):TV→AV→Option (List Prop×List AV)
 | .u,x=>match x with
  | .nil=>none
  | .cons ..=>none
  | _=>some ([],[])
 | .v t,x=>match t with
  | .slice e=>match qgg e x with
   | some ys=>some ([],[.val (.slice e) ys])
   | none=>none
  | t=>match asD t x with
   | some y=>some ([],[.val t y])
   | none=>none
 | .sl j s i,x=>match x with
  | .sl b s' i' len c=>if isAt ρ j b=true∧s'=s∧i'=i then match c with
    | none=>some ([],[.val (.int .i64) ((len:Nat):Int)])
    | some c=>match hget H b with
     | some (.arr _ xs false)=>some ([c=xs.length-i],[.val (.int .i64) ((len:Nat):Int)])
     | _=>none
   else none
  | _=>none
 | .slf j s,x=>match x with
  | .sl b s' i' len c=>if isAt ρ j b=true∧s'=s∧i'=0 then match c with
    | none=>some ([len=nmAt lens j],[])
    | some c=>match hget H b with
     | some (.arr _ xs false)=>some ([len=nmAt lens j,c=xs.length],[])
     | _=>none
   else none
  | .vsl _ _ c=>if isNo ρ j=true∧c=0 then some ([0=nmAt lens j],[]) else none
  | _=>none
 | .ref j s i o,x=>match x with
  | .ref b s' i' o'=>if isAt ρ j b=true∧s'=s∧i'=i∧o'=o then some ([],[]) else none
  | _=>none
 | .mref j,x=>match x with
  | .mref b=>if isAt ρ j b=true then some ([],[]) else none
  | _=>none
 | .fn f c,x=>match x with
  | .fn g d=>if Nat.beq f g=true then qb9 ρ H lens c d else none
  | _=>none
 | .nil,x=>match x with
  | .nil=>some ([],[])
  | _=>none
 | .cons a l,x=>match x with
  | .cons y z=>match qb9 ρ H lens a (ql4 a y).2,qb9 ρ H lens l z with
   | some (p,h),some (q,r)=>some ((ql4 a y).1++(p++q),h++r)
   | _,_=>none
  | _=>none
 | .opt tv,x=>match x with
  | .opt b a=>match zde a with
   | true=>some ([b=true],.val .bool true::q36 tv.ts)
   | false=>match qb9 ρ H lens tv (peel a).2 with
    | some (p,h)=>some ([b=false→allP ((peel a).1++p)],.val .bool b::h)
    | none=>none
  | a=>match nonN a,qb9 ρ H lens tv a with
   | some q,some (p,h)=>some (q::p,.val .bool false::h)
   | _,_=>none
def qfv (ρ:List (Option Nat)) (H:List Hs) (lens:List Nat):List TV→List AV→Option (List Prop×List AV)
 | [],[]=>some ([],[])
 | tv::l,v::vs=>match qb9 ρ H lens tv (ql4 tv v).2,qfv ρ H lens l vs with
  | some (p,h),some (q,r)=>some ((ql4 tv v).1++(p++q),h++r)
  | _,_=>none
 | _,_=>none
def qu3 (ρ:List (Option Nat)) (H:List Hs) (lens:List Nat) (T:List AV):List (Nat×TV)→Option (List Prop×List AV)
 | []=>some ([],[])
 | (n,tv)::l=>match qb9 ρ H lens tv (ql4 tv (T.getD n .undef)).2,qu3 ρ H lens T l with
  | some (p,h),some (q,r)=>some ((ql4 tv (T.getD n .undef)).1++(p++q),h++r)
  | _,_=>none
def qcf (ρ:List (Option Nat)) (H:List Hs) (lens:List Nat):Option Nat→TB→Option (List Prop×List AV)
 | _,.dead=>some ([],[])
 | none,.arr t opn=>match opn with
  | true=>some ([],[.val (.slice t) ([]:List (Den t))])
  | false=>none
 | none,.nest t=>some ([],[.val (.slice (.slice t)) ([]:List (List (Den t)))])
 | none,_=>none
 | some b,.arr t opn=>match hget H b with
  | some (.arr t' xs o)=>match qdg t' t xs with
   | some ys=>if o=opn∨opn=true then some ([],[.val (.slice t) ys]) else none
   | none=>none
  | _=>none
 | some b,.cells l=>match hget H b with
  | some (.cells vs)=>qfv ρ H lens l vs
  | _=>none
 | some b,.mix l t=>match hget H b with
  | some (.mix vs t' xs)=>match qdg t' t xs,qfv ρ H lens l vs with
   | some ys,some (p,h)=>some (p,.val (.slice t) ys::h)
   | _,_=>none
  | _=>none
 | some b,.map k v=>match hget H b with
  | some (.map k' v' es)=>match qs5 k' v' k v es with
   | some es=>some ([],[.val (.map k v) es])
   | none=>none
  | _=>none
 | some b,.nest t=>match hget H b with
  | some (.nest t' rows none)=>match qdg (.slice t') (.slice t) rows with
   | some ys=>some ([],[.val (.slice (.slice t)) ys])
   | none=>none
  | _=>none
 | some b,.view j=>match H[b]? with
  | some (.view c i false)=>match isAt ρ j c with
   | true=>match hget H c with
    | some (.nest t rows _)=>some ([i<List.length (α:=List (Den t)) rows],[.val (.int .i64) ((i:Nat):Int)])
    | _=>none
   | false=>none
  | _=>none
def qck (ρ:List (Option Nat)) (H:List Hs) (lens:List Nat):List (Option Nat)→List TB→Option (List Prop×List AV)
 | [],[]=>some ([],[])
 | b::bs,tb::l=>match qcf ρ H lens b tb,qck ρ H lens bs l with
  | some (p,h),some (q,r)=>some (p++q,h++r)
  | _,_=>none
 | _,_=>none
def memO (x:Nat):List (Option Nat)→Bool
 | []=>false
 | some y::l=>Nat.beq x y || memO x l
 | none::l=>memO x l
def qiq:List (Option Nat)→Bool
 | []=>true
 | some x::l=>!memO x l && qiq l
 | none::l=>qiq l
def qga:List TB→List (Option Nat)→List (Option Nat)
 | .dead::bl,_::ρ=>none::qga bl ρ
 | _::bl,o::ρ=>o::qga bl ρ
 | [],_=>[]
 | _,[]=>[]
def qu5:Nat→Nat→List (Nat×Nat)
 | _,0=>[]
 | j,n+1=>(j,j)::qu5 (j+1) n
def idOk:Nat→Nat→List (Option Nat)→Bool
 | _,0,_=>true
 | j,n+1,some b::ρ=>Nat.beq b j && idOk (j+1) n ρ
 | _,_,_=>false
def qok:Nat→List Hs→Bool
 | 0,_=>true
 | _+1,.free::_=>false
 | k+1,_::H=>qok k H
 | _+1,[]=>false
def qs4 (sl:List (Nat×TV)) (bl:List TB) (k:Nat) (S:St):Option (List Prop×List AV) :=
 match rhoL (qdk S.H 0 bl (qu5 0 k++q40 S.T sl)) 0 bl with
 | ρ=>match qiq (qga bl ρ) && (idOk 0 k ρ && qok k S.H) with
  | true=>match qfi S.H ρ bl with
   | lens=>match qu3 ρ S.H lens S.T sl,qck ρ S.H lens ρ bl with
    | some (p,h),some (q,r)=>some (p++q,h++r)
    | _,_=>none
  | false=>none
section
variable {w:World} {Γ Γ':Cx}
theorem Rp.shift {w0:World} {Γ0:Cx} (hI:∀ b,Γ.I b→Γ'.I b) (hA:∀ b,Γ0.A b→Γ'.A b∧Γ'.ν b=Γ.ν b∧Γ'.κ b=Γ.κ b):∀ (a:AV) (us vs:List Value),Rp w0 Γ0 a us→Rp w Γ a vs→Rp w Γ' a vs
 | .undef,us,vs,_,h=>by simpa only [Rp] using h
 | .val t x,us,vs,_,h=>by
  simp only [Rp] at h ⊢;obtain ⟨v,e,h⟩:=h;exact ⟨v,e,h.mono hI (fun _ _=>rfl)⟩
 | .gd b a,us,vs,h0,h=>by
  simp only [Rp] at h0 h ⊢;exact ⟨h.1,fun hb=>Rp.shift hI hA a us vs (h0.2.1 hb) (h.2.1 hb),h.2.2⟩
 | .opt b a,us,vs,h0,h=>by
  simp only [Rp] at h0 h ⊢;exact ⟨h.1,h.2.1,fun hb=>⟨Rp.shift hI hA a us vs (h0.2.2 hb).1 (h.2.2 hb).1,(h.2.2 hb).2⟩⟩
 | .anyb pos P,us,vs,h0,h=>by simpa only [Rp] using h
 | .ref b s i o,us,vs,h0,h=>by
  simp only [Rp] at h0 h ⊢;obtain ⟨g1,g2,g3⟩:=hA b h0.1;exact ⟨g1,by rw [g2];exact h.2⟩
 | .sl b s i len c,us,vs,h0,h=>by
  simp only [Rp] at h0 h ⊢;obtain ⟨g1,g2,g3⟩:=hA b h0.1;exact ⟨g1,by rw [g2,g3];exact h.2⟩
 | .vsl t xs c,us,vs,_,h=>by
  simp only [Rp] at h ⊢;obtain ⟨ad,e1,e2,e3,e4⟩:=h;refine ⟨ad,e1,e2,e3,fun i x hx=>?_⟩
  obtain ⟨b,off,cs,k1,k2,k3,k4⟩:=e4 i x hx;exact ⟨b,off,cs,k1,hI b k2,RepC.mono hI (fun _ _=>rfl) t x cs k3,k4⟩
 | .mref b,us,vs,h0,h=>by
  simp only [Rp] at h0 h ⊢;obtain ⟨g1,g2,g3⟩:=hA b h0.1;exact ⟨g1,by rw [g2];exact h.2⟩
 | .fn f caps,us,vs,h0,h=>by
  simp only [Rp] at h0 h ⊢;obtain ⟨u0,_,h0⟩:=h0;obtain ⟨u,e,h⟩:=h;exact ⟨u,e,Rp.shift hI hA caps _ _ h0 h⟩
 | .tup l,us,vs,h0,h=>by
  simp only [Rp] at h0 h ⊢;obtain ⟨u0,_,h0⟩:=h0;obtain ⟨u,e,h⟩:=h;exact ⟨u,e,Rp.shift hI hA l _ _ h0 h⟩
 | .agg l,us,vs,h0,h=>by
  simp only [Rp] at h0 h ⊢;obtain ⟨u0,_,h0,_⟩:=h0;obtain ⟨u,e,h,ho⟩:=h;exact ⟨u,e,Rp.shift hI hA l _ _ h0 h,ho⟩
 | .nil,us,vs,_,h=>by simpa only [Rp] using h
 | .cons a l,us,vs,h0,h=>by
  simp only [Rp] at h0 h ⊢;obtain ⟨v0,u0,_,h1,h2⟩:=h0;obtain ⟨v,u,e,h3,h4⟩:=h;exact ⟨v,u,e,Rp.shift hI hA a _ _ h1 h3,Rp.shift hI hA l _ _ h2 h4⟩
def Cx.head (Γ:Cx) (len:Nat) (ρ:List (Option Nat)) (A0:Nat→Prop):Cx where
 I:=Γ.I
 A:=fun b=>A0 b∨(len≤b∧b<len+ρ.length)
 ν:=fun b=>if b<len then Γ.ν b else match ρ[b-len]? with
  | some (some c)=>Γ.ν c
  | _=>0
 κ:=fun b=>if b<len then Γ.κ b else match ρ[b-len]? with
  | some (some c)=>Γ.κ c
  | _=>0
 R:=fun b=>if b<len then Γ.R b else match ρ[b-len]? with
  | some (some c)=>Γ.R c
  | _=>fun _=>(0,0)
structure Nm (Γ Γ':Cx) (ρ:List (Option Nat)) (nm:List Nat):Prop where
 I:∀ b,Γ.I b→Γ'.I b
 so:∀ j b,ρ[j]?=some (some b)→Γ'.A (nmAt nm j)∧Γ'.ν (nmAt nm j)=Γ.ν b∧Γ'.κ (nmAt nm j)=Γ.κ b
 no:∀ j,ρ[j]?=some none→Γ'.A (nmAt nm j)∧Γ'.κ (nmAt nm j)=0
 rr:∀ j b,ρ[j]?=some (some b)→Γ'.R (nmAt nm j)=Γ.R b
 rn:∀ j,ρ[j]?=some none→∀ i,(Γ'.R (nmAt nm j) i).2=0
theorem qem {ρ:List (Option Nat)} {j b:Nat} (h:isAt ρ j b=true):ρ[j]?=some (some b):=by
 unfold isAt at h;split at h
 ·rename_i c hc;rw [hc];simp at h;rw [h]
 ·cases h
theorem q24 {ρ:List (Option Nat)} {j:Nat} (h:isNo ρ j=true):ρ[j]?=some none:=by
 unfold isNo at h;split at h
 ·rename_i hc;exact hc
 ·cases h
theorem qat:∀ {n a j:Nat},j<n→nmAt (qa5 a n) j=a+j
 | n+1,a,0,_=>rfl
 | n+1,a,j+1,h=>by
  simp only [qa5,nmAt];rw [qat (by omega)];omega
theorem qcd {α:Type} {l:List α} {j:Nat} {x:α} (h:l[j]?=some x):j<l.length:=by
 rcases Nat.lt_or_ge j l.length with h' | h'
 ·exact h'
 ·rw [wac h'] at h;cases h
theorem Nm.head {len:Nat} {ρ:List (Option Nat)} {A0:Nat→Prop}:Nm Γ (Γ.head len ρ A0) ρ (qa5 len ρ.length) where
 I:=fun _ h=>h
 so:=fun j b h=>by
  have hj:=qcd h;rw [qat hj];refine ⟨.inr ⟨Nat.le_add_right _ _,by omega⟩,?_,?_⟩ <;>
  ·simp only [Cx.head];rw [if_neg (by omega),Nat.add_sub_cancel_left,h]
 no:=fun j h=>by
  have hj:=qcd h;rw [qat hj];refine ⟨.inr ⟨Nat.le_add_right _ _,by omega⟩,?_⟩
  simp only [Cx.head];rw [if_neg (by omega),Nat.add_sub_cancel_left,h]
 rr:=fun j b h=>by
  have hj:=qcd h;rw [qat hj];simp only [Cx.head];rw [if_neg (by omega),Nat.add_sub_cancel_left,h]
 rn:=fun j h i=>by
  have hj:=qcd h;rw [qat hj];simp only [Cx.head];rw [if_neg (by omega),Nat.add_sub_cancel_left,h]
theorem qy7 {x:AV} {vs:List Value} (h:Rp w Γ x vs) (h1:x≠.nil) (h2:∀ a l,x≠.cons a l):∃ v,vs=[v]:=by
 cases x<;>simp only [Rp] at h
 ·exact h
 ·obtain ⟨v,e,_⟩:=h;exact ⟨v,e⟩
 ·exact h.1
 ·exact h.1
 ·obtain ⟨_,e,_⟩:=h;exact ⟨_,e⟩
 ·exact ⟨_,h.2⟩
 ·obtain ⟨_,_,_,e,_⟩:=h;exact ⟨_,e⟩
 ·obtain ⟨_,e,_⟩:=h;exact ⟨_,e⟩
 ·exact ⟨_,h.2⟩
 ·obtain ⟨_,e,_⟩:=h;exact ⟨_,e⟩
 ·obtain ⟨_,e,_⟩:=h;exact ⟨_,e⟩
 ·obtain ⟨_,e,_⟩:=h;exact ⟨_,e⟩
 ·exact absurd rfl h1
 ·exact absurd rfl (h2 _ _)
def qde:List Ty→List AV→Prop
 | [],[]=>True
 | t::ts,x::xs=>(∃ y:Den t,x=.val t y)∧qde ts xs
 | _,_=>False
theorem qde.app:∀ {ts us:List Ty} {xs ys:List AV},qde ts xs→qde us ys→qde (ts++us) (xs++ys)
 | [],_,[],_,_,h=>h
 | t::ts,us,x::xs,ys,h1,h2=>⟨h1.1,h1.2.app h2⟩
 | [],_,_::_,_,h,_=>h.elim
 | _::_,_,[],_,h,_=>h.elim
theorem qde.length:∀ {ts:List Ty} {xs:List AV},qde ts xs→xs.length=ts.length
 | [],[],_=>rfl
 | t::ts,x::xs,h=>by simp [h.2.length]
 | [],_::_,h=>h.elim
 | _::_,[],h=>h.elim
theorem qde.split:∀ {ts us:List Ty} {xs:List AV},qde (ts++us) xs→∃ ys zs,xs=ys++zs∧qde ts ys∧qde us zs
 | [],us,xs,h=>⟨[],xs,rfl,trivial,h⟩
 | t::ts,us,x::xs,h=>by
  obtain ⟨ys,zs,e,h1,h2⟩:=qde.split (ts:=ts) h.2;exact ⟨x::ys,zs,by rw [e];rfl,⟨h.1,h1⟩,h2⟩
 | _::_,_,[],h=>h.elim
section
variable {ρ:List (Option Nat)} {H:List Hs} {lens:List Nat}
theorem qq4:∀ {ts:List Ty},qde ts (q36 ts)
 | []=>trivial
 | t::ts=>⟨⟨_,rfl⟩,qq4⟩
theorem qec:∀ {tv:TV} {x:AV} {q:List Prop} {h:List AV},qb9 ρ H lens tv x=some (q,h)→qde tv.ts h
 | .u,x,q,h,hr=>by
  simp only [qb9] at hr;split at hr
  ·cases hr
  ·cases hr
  ·cases hr;trivial
 | .v t,x,q,h,hr=>by
  cases t<;>simp only [qb9] at hr<;>split at hr<;>first | (cases hr;exact ⟨⟨_,rfl⟩,trivial⟩) | cases hr
 | .sl j s i,x,q,h,hr=>by
  simp only [qb9] at hr;split at hr
  ·split at hr
   ·split at hr
    ·cases hr;exact ⟨⟨_,rfl⟩,trivial⟩
    ·split at hr
     ·cases hr;exact ⟨⟨_,rfl⟩,trivial⟩
     ·cases hr
   ·cases hr
  ·cases hr
 | .slf j s,x,q,h,hr=>by
  simp only [qb9] at hr;split at hr
  ·split at hr
   ·split at hr
    ·cases hr;trivial
    ·split at hr
     ·cases hr;trivial
     ·cases hr
   ·cases hr
  ·split at hr
   ·cases hr;trivial
   ·cases hr
  ·cases hr
 | .ref j s i o,x,q,h,hr=>by
  simp only [qb9] at hr;split at hr
  ·split at hr
   ·cases hr;trivial
   ·cases hr
  ·cases hr
 | .mref j,x,q,h,hr=>by
  simp only [qb9] at hr;split at hr
  ·split at hr
   ·cases hr;trivial
   ·cases hr
  ·cases hr
 | .fn f c,x,q,h,hr=>by
  simp only [qb9] at hr;split at hr
  ·split at hr
   ·exact qec (tv:=c) hr
   ·cases hr
  ·cases hr
 | .nil,x,q,h,hr=>by
  simp only [qb9] at hr;split at hr
  ·cases hr;trivial
  ·cases hr
 | .cons a l,x,q,h,hr=>by
  simp only [qb9] at hr;split at hr
  ·split at hr
   ·rename_i e1 e2;cases hr;exact (qec e1).app (qec e2)
   ·cases hr
  ·cases hr
 | .opt tv,x,q,h,hr=>by
  simp only [qb9] at hr;split at hr
  ·split at hr
   ·cases hr;exact ⟨⟨_,rfl⟩,qq4⟩
   ·split at hr
    ·rename_i e1;cases hr;exact ⟨⟨_,rfl⟩,qec e1⟩
    ·cases hr
  ·split at hr
   ·rename_i e1 e2;cases hr;exact ⟨⟨_,rfl⟩,qec e2⟩
   ·cases hr
theorem qjx:∀ {l:List TV} {vs:List AV} {q:List Prop} {h:List AV},qfv ρ H lens l vs=some (q,h)→qde (l.flatMap TV.ts) h
 | [],[],q,h,hr=>by simp only [qfv,wa0,wa2] at hr;obtain ⟨_,rfl⟩:=hr;trivial
 | tv::l,v::vs,q,h,hr=>by
  simp only [qfv] at hr;split at hr
  ·rename_i e1 e2;cases hr;rw [wbu];exact (qec e1).app (qjx e2)
  ·cases hr
 | [],_::_,_,_,hr=>by simp [qfv] at hr
 | _::_,[],_,_,hr=>by simp [qfv] at hr
theorem qrn {T:List AV}:∀ {l:List (Nat×TV)} {q:List Prop} {h:List AV},qu3 ρ H lens T l=some (q,h)→qde (tsS l) h
 | [],q,h,hr=>by simp only [qu3,wa0,wa2] at hr;obtain ⟨_,rfl⟩:=hr;trivial
 | (n,tv)::l,q,h,hr=>by
  simp only [qu3] at hr;split at hr
  ·rename_i e1 e2;cases hr;rw [tsS,wbu];exact (qec e1).app (qrn e2)
  ·cases hr
theorem qq6 {b:Option Nat} {tb:TB} {q:List Prop} {h:List AV} (hr:qcf ρ H lens b tb=some (q,h)):qde tb.ts h:=by
 cases tb with
 | dead=>cases b<;>(simp only [qcf] at hr;cases hr;trivial)
 | arr t opn =>
  cases b with
  | none =>
   simp only [qcf] at hr;split at hr
   ·cases hr;exact ⟨⟨_,rfl⟩,trivial⟩
   ·cases hr
  | some b =>
   simp only [qcf] at hr;split at hr
   ·split at hr
    ·split at hr
     ·cases hr;exact ⟨⟨_,rfl⟩,trivial⟩
     ·cases hr
    ·cases hr
   ·cases hr
 | cells l =>
  cases b with
  | none=>simp [qcf] at hr
  | some b =>
   simp only [qcf] at hr;split at hr
   ·exact qjx hr
   ·cases hr
 | map k v =>
  cases b with
  | none=>simp [qcf] at hr
  | some b =>
   simp only [qcf] at hr;split at hr
   ·split at hr
    ·cases hr;exact ⟨⟨_,rfl⟩,trivial⟩
    ·cases hr
   ·cases hr
 | nest t =>
  cases b with
  | none=>simp only [qcf] at hr;cases hr;exact ⟨⟨_,rfl⟩,trivial⟩
  | some b =>
   simp only [qcf] at hr;split at hr
   ·split at hr
    ·cases hr;exact ⟨⟨_,rfl⟩,trivial⟩
    ·cases hr
   ·cases hr
 | mix l t =>
  cases b with
  | none=>simp [qcf] at hr
  | some b =>
   simp only [qcf] at hr;split at hr
   ·split at hr
    ·rename_i e1 e2;cases hr;exact ⟨⟨_,rfl⟩,qjx e2⟩
    ·cases hr
   ·cases hr
 | view j =>
  cases b with
  | none=>simp [qcf] at hr
  | some b =>
   simp only [qcf] at hr;split at hr
   ·split at hr
    ·split at hr
     ·cases hr;exact ⟨⟨_,rfl⟩,trivial⟩
     ·cases hr
    ·cases hr
   ·cases hr
theorem qna:∀ {bs:List (Option Nat)} {l:List TB} {q:List Prop} {h:List AV},qck ρ H lens bs l=some (q,h)→qde (tsB l) h
 | [],[],q,h,hr=>by simp only [qck,wa0,wa2] at hr;obtain ⟨_,rfl⟩:=hr;trivial
 | b::bs,tb::l,q,h,hr=>by
  simp only [qck] at hr;split at hr
  ·rename_i e1 e2;cases hr;rw [tsB,wbu];exact (qq6 e1).app (qna e2)
  ·cases hr
 | [],_::_,_,_,hr=>by simp [qck] at hr
 | _::_,[],_,_,hr=>by simp [qck] at hr
end
theorem qxc {sl:List (Nat×TV)} {bl:List TB} {k:Nat} {S:St} {q:List Prop} {h:List AV} (hr:qs4 sl bl k S=some (q,h)):qde (tsS sl++tsB bl) h:=by
 simp only [qs4] at hr;split at hr
 ·split at hr
  ·rename_i e1 e2;cases hr;exact (qrn e1).app (qna e2)
  ·cases hr
 ·cases hr
theorem qzd {sl:List (Nat×TV)} {bl:List TB} {k:Nat} {S:St} {q:List Prop} {h:List AV} (hr:qs4 sl bl k S=some (q,h)):qok k S.H=true:=by
 simp only [qs4] at hr;split at hr
 ·rename_i hh;simp only [wa4] at hh;exact hh.2.2
 ·cases hr
theorem qbn {t:Ty} {ys:Den (.slice t)}:qi0 t (.val (.slice t) ys)=ys:=by
 show (qbb (.slice t) (.slice t) ys).getD []=ys;rw [qct];rfl
theorem que {k v:Ty} {es:Den (.map k v)}:q7i k v (.val (.map k v) es)=es:=by
 show (qbb (.map k v) (.map k v) es).getD []=es;rw [qct];rfl
theorem quv {ρ:List (Option Nat)} {H:List Hs} {lens:List Nat}:∀ {bs:List (Option Nat)} {bl:List TB} {q:List Prop} {r:List AV} (rest:List AV),qck ρ H lens bs bl=some (q,r)→qt1 bl (r++rest)=qfi H bs bl
 | [],[],q,r,rest,hr=>by simp only [qt1,qfi]
 | b::bs,tb::bl,q,r,rest,hr=>by
  simp only [qck] at hr;split at hr
  ·rename_i p h q' r' e1 e2;cases hr;have hn:=(qq6 e1).length.trans tb.n_eq;simp only [qt1,qfi,wat,qdb hn,quv rest e2];congr 1
   cases tb with
   | arr t opn =>
    cases b with
    | none =>
     simp only [qcf] at e1;split at e1
     ·cases e1;exact congrArg (List.length (α:=Den t)) (qbn (t:=t) (ys:=[]))
     ·cases e1
    | some b =>
     simp only [qcf] at e1;split at e1
     ·rename_i t' xs o hg;split at e1
      ·rename_i ys hy;split at e1
       ·cases e1;obtain ⟨e3,e4⟩:=qb1 hy;subst e3;subst e4;simp only [hg];exact congrArg (List.length (α:=Den t')) (qbn (t:=t') (ys:=ys))
       ·cases e1
      ·cases e1
     ·cases e1
   | nest t =>
    cases b with
    | none =>
     simp only [qcf] at e1;cases e1;exact congrArg (List.length (α:=Den (.slice t))) (qbn (t:=.slice t) (ys:=[]))
    | some b =>
     simp only [qcf] at e1;split at e1
     ·rename_i t' rows hg;split at e1
      ·rename_i ys hy;cases e1;obtain ⟨e3,e4⟩:=qb1 hy;cases e3;subst e4;simp only [hg];exact congrArg (List.length (α:=Den (.slice t))) (qbn (t:=.slice t) (ys:=ys))
      ·cases e1
     ·cases e1
   | _=>rfl
  ·cases hr
 | [],_::_,_,_,_,hr=>by simp [qck] at hr
 | _::_,[],_,_,_,hr=>by simp [qck] at hr
end
section
variable {w:World} {Γ Γ':Cx} {ρ:List (Option Nat)} {nm:List Nat} {H:List Hs} {lens:List Nat}
theorem qyv {e:Ty}:qgg e .nil=none:=rfl
theorem qvc {e:Ty} {a l:AV}:qgg e (.cons a l)=none:=rfl
theorem q8d {e:Ty}:asD e .nil=none:=rfl
theorem q5n {e:Ty} {a l:AV}:asD e (.cons a l)=none:=rfl
theorem zam:∀ {t:Ty} {x:AV} {q:List Prop} {h:List AV},qb9 ρ H lens (.v t) x=some (q,h)→∀ {vs:List Value},Rp w Γ x vs→∃ (y:Den t) (v:Value),h=[.val t y]∧vs=[v]∧RepV w Γ.I t y v:=by
 intro t x q h hr vs hx;have hsl:∀ e (ys:List (Den e)),qgg e x=some ys→∃ v,vs=[v]∧RepV w Γ.I (.slice e) ys v:=fun e ys hy=>by
  have:∃ v,vs=[v]:=qy7 hx (fun e=>by rw [e,qyv] at hy;cases hy) (fun a l e=>by rw [e,qvc] at hy;cases hy)
  obtain ⟨v,rfl⟩:=this;obtain ⟨ad,cap,h1,h2,h3,h4⟩:=qhq hy hx;exact ⟨v,rfl,qb4.2 ⟨ad,cap,h1,h2,h3,h4⟩⟩
 have hot:∀ (y:Den t),asD t x=some y→∃ v,vs=[v]∧RepV w Γ.I t y v:=fun y hy=>by
  have:∃ v,vs=[v]:=qy7 hx (fun e=>by rw [e,q8d] at hy;cases hy) (fun a l e=>by rw [e,q5n] at hy;cases hy)
  obtain ⟨v,rfl⟩:=this;exact ⟨v,rfl,qek hy hx⟩
 cases t with
 | slice e =>
  simp only [qb9] at hr;split at hr
  ·rename_i ys hy;cases hr;obtain ⟨v,h1,h2⟩:=hsl e ys hy;exact ⟨ys,v,rfl,h1,h2⟩
  ·cases hr
 | _ =>
  simp only [qb9] at hr;split at hr
  ·rename_i y hy;cases hr;obtain ⟨v,h1,h2⟩:=hot y hy;exact ⟨y,v,rfl,h1,h2⟩
  ·cases hr
theorem qi9 {tv:TV} {x:AV} {v:Value} (h:Ra w Γ x v) (hp:allP (ql4 tv x).1):Ra w Γ (ql4 tv x).2 v:=by
 unfold ql4 at hp ⊢;split
 ·exact qi4 h hp
 ·rename_i hn;split at hp
  ·exact absurd rfl (hn _)
  ·exact qaf h hp
theorem q83 {b:Bool} {a:AV} {vs:List Value} (h1:∃ v,vs=[v]) (h2:b=true→vs=[.slice none 0 0]) (h3:b=false→Rp w Γ a vs∧∃ ad n c,vs=[.slice (some ad) n c]):Rp w Γ (.opt b a) vs:=by
 simp only [Rp];exact ⟨h1,h2,h3⟩
theorem zac {b:Bool} {a:AV} {vs:List Value} (h:Rp w Γ (.opt b a) vs):(∃ v,vs=[v])∧(b=true→vs=[.slice none 0 0])∧(b=false→Rp w Γ a vs∧∃ ad n c,vs=[.slice (some ad) n c]):=by
 simpa only [Rp] using h
theorem q75 {a:AV} {vs:List Value} (h:vs=[.slice none 0 0]):Rp w Γ (.opt true a) vs:=by
 simp only [Rp];exact ⟨⟨_,h⟩,fun _=>h,fun h=>Bool.noConfusion h⟩
theorem q9k {a:AV} {vs:List Value} (h:Rp w Γ a vs) (h2:∃ ad n c,vs=[.slice (some ad) n c]):Rp w Γ (.opt false a) vs:=by
 simp only [Rp];obtain ⟨ad,n,c,e⟩:=h2;exact ⟨⟨_,e⟩,fun h=>Bool.noConfusion h,fun _=>⟨h,ad,n,c,e⟩⟩
theorem qya {x:AV} {q:Prop} {vs:List Value} (h:nonN x=some q) (hq:q) (hx:Rp w Γ x vs):∃ ad n c,vs=[.slice (some ad) n c]:=by
 have key:∀ (ad:Option Addr) (n c:Nat),n≠0→n≤c→(ad=none→c=0)→∃ ad' n' c',([Value.slice ad n c]:List Value)=[.slice (some ad') n' c']:=fun ad n c h1 h2 h3=>by
  cases ad with
  | some ad=>exact ⟨_,_,_,rfl⟩
  | none=>have:=h3 rfl;omega
 cases x with
 | sl b s i len c =>
  simp only [nonN,wa0] at h;subst h;simp only [Rp] at hx;obtain ⟨_,ad,cap,rfl,_,h3,h4⟩:=hx;refine key ad len cap hq h4 fun e=>?_
  rcases Nat.eq_zero_or_pos cap with h0 | h0
  ·exact h0
  ·have:=h3 (by omega);rw [e] at this;cases this
 | vsl t xs c =>
  simp only [nonN,wa0] at h;subst h;simp only [Rp] at hx;obtain ⟨ad,rfl,h1,h2,_⟩:=hx;exact key ad _ c hq h1 h2
 | val t y =>
  cases t with
  | slice e =>
   simp only [nonN,wa0] at h;subst h;obtain ⟨v,rfl,hv⟩:=(by simpa only [Rp] using hx:∃ v,vs=[v]∧RepV w Γ.I (.slice e) y v)
   obtain ⟨cs,hc,rfl⟩:=hv;simp only [RepC] at hc;obtain ⟨ad,cap,rfl,h1,h2,_⟩:=hc;simpa [mkV,isAgg] using key ad _ cap hq h1 h2
  | _=>simp [nonN] at h
 | _=>simp [nonN] at h
theorem qdr (em:∀ b B,H[b]?=some (.live B)→RepB w Γ b B) (hn:Nm Γ Γ' ρ nm):∀ {tv:TV} {x:AV} {q:List Prop} {h:List AV},qb9 ρ H lens tv x=some (q,h)→allP q →
  ∀ {vs:List Value},Rp w Γ x vs→∀ rest,Rp w Γ' (qdq nm lens tv (h++rest)) vs
 | .u,x,q,h,hr,hq,vs,hx,rest=>by
  have h1:x≠.nil:=fun e=>by subst e;simp [qb9] at hr
  have h2:∀ a l,x≠.cons a l:=fun a l e=>by subst e;simp [qb9] at hr
  obtain ⟨v,e⟩:=qy7 hx h1 h2;simp only [qdq,Rp];exact ⟨v,e⟩
 | .v t,x,q,h,hr,hq,vs,hx,rest=>by
  obtain ⟨y,v,e1,e2,hy⟩:=zam hr hx;subst e1;simp only [qdq,wbf,List.headD_cons,Rp];exact ⟨v,e2,hy.mono hn.I (fun _ _=>rfl)⟩
 | .sl j s i,x,q,h,hr,hq,vs,hx,rest=>by
  simp only [qb9] at hr;split at hr
  ·rename_i b s' i' len c;split at hr
   ·rename_i hh;obtain ⟨h1,h2,h3⟩:=hh;subst h2;subst h3;obtain ⟨g1,g2,g3⟩:=hn.so _ _ (qem h1);split at hr
    ·cases hr;show Rp w Γ' (.sl (nmAt nm j) s' i' ((len:Int)).toNat none) vs;rw [wad];simp only [Rp] at hx ⊢;obtain ⟨_,ad,cap,k1,k2,k3,k4⟩:=hx;exact ⟨g1,ad,cap,k1,by rw [g3];exact k2,by rw [g2];exact k3,k4⟩
    ·split at hr
     ·rename_i c t xs hg;cases hr;have hc:=allP_one.1 hq;have hB:=em b _ (qav hg);simp only [RepB] at hB;have hk:=hB.2.1 trivial;show Rp w Γ' (.sl (nmAt nm j) s' i' ((len:Int)).toNat none) vs;rw [wad];simp only [Rp] at hx ⊢;obtain ⟨_,ad,cap,k1,k2,k3,k4⟩:=hx;refine ⟨g1,ad,cap,k1,?_,by rw [g2];exact k3,k4⟩
      rw [g3,k2,Option.getD_some,Option.getD_none,hc,hk]
     ·cases hr
   ·cases hr
  ·cases hr
 | .slf j s,x,q,h,hr,hq,vs,hx,rest=>by
  simp only [qb9] at hr;split at hr
  ·rename_i b s' i' len c;split at hr
   ·rename_i hh;obtain ⟨h1,h2,h3⟩:=hh;subst h2;subst h3;obtain ⟨g1,g2,g3⟩:=hn.so _ _ (qem h1);split at hr
    ·cases hr;have he:=allP_one.1 hq;simp only [qdq];rw [← he];simp only [Rp] at hx ⊢;obtain ⟨_,ad,cap,k1,k2,k3,k4⟩:=hx;exact ⟨g1,ad,cap,k1,by rw [g3];exact k2,by rw [g2];exact k3,k4⟩
    ·split at hr
     ·rename_i c t xs hg;cases hr;obtain ⟨he,hc⟩:=qa1.1 hq;have hc:=allP_one.1 hc;have hB:=em b _ (qav hg);simp only [RepB] at hB;have hk:=hB.2.1 trivial;simp only [qdq];rw [← he];simp only [Rp] at hx ⊢;obtain ⟨_,ad,cap,k1,k2,k3,k4⟩:=hx;refine ⟨g1,ad,cap,k1,?_,by rw [g2];exact k3,k4⟩
      rw [g3,k2];simp only [Option.getD_some,Option.getD_none,Nat.sub_zero];omega
     ·cases hr
   ·cases hr
  ·rename_i t xs c;split at hr
   ·rename_i hh;obtain ⟨h1,h2⟩:=hh;subst h2;obtain ⟨g1,g3⟩:=hn.no _ (q24 h1);cases hr;have he:=allP_one.1 hq;simp only [qdq];rw [← he];simp only [Rp] at hx ⊢;obtain ⟨ad,k1,k2,k3,k4⟩:=hx;have hl:xs.length=0:=by omega
    rw [hl] at k1;exact ⟨g1,ad,0,k1,by rw [g3];rfl,fun h=>absurd rfl h,wae _⟩
   ·cases hr
  ·cases hr
 | .ref j s i o,x,q,h,hr,hq,vs,hx,rest=>by
  simp only [qb9] at hr;split at hr
  ·split at hr
   ·rename_i hh;obtain ⟨h1,rfl,rfl,rfl⟩:=hh;obtain ⟨g1,g2,g3⟩:=hn.so _ _ (qem h1);cases hr;simp only [qdq,Rp] at hx ⊢;exact ⟨g1,by rw [g2];exact hx.2⟩
   ·cases hr
  ·cases hr
 | .mref j,x,q,h,hr,hq,vs,hx,rest=>by
  simp only [qb9] at hr;split at hr
  ·split at hr
   ·rename_i h1;obtain ⟨g1,g2,g3⟩:=hn.so _ _ (qem h1);cases hr;simp only [qdq,Rp] at hx ⊢;exact ⟨g1,by rw [g2];exact hx.2⟩
   ·cases hr
  ·cases hr
 | .fn f c,x,q,h,hr,hq,vs,hx,rest=>by
  simp only [qb9] at hr;split at hr
  ·rename_i g d;split at hr
   ·rename_i hf;have hf:f=g:=by simpa using hf
    subst hf;simp only [qdq,Rp] at hx ⊢;obtain ⟨us,e,hx⟩:=hx;exact ⟨us,e,qdr em hn hr hq hx rest⟩
   ·cases hr
  ·cases hr
 | .nil,x,q,h,hr,hq,vs,hx,rest=>by
  simp only [qb9] at hr;split at hr
  ·simp only [qdq,Rp] at hx ⊢;exact hx
  ·cases hr
 | .cons a l,x,q,h,hr,hq,vs,hx,rest=>by
  simp only [qb9] at hr;split at hr
  ·rename_i y z;split at hr
   ·rename_i p h1 q' r e1 e2;cases hr;obtain ⟨q1,q2⟩:=qae.1 hq;obtain ⟨q2,q3⟩:=qae.1 q2;simp only [Rp] at hx;obtain ⟨v,us,e,k1,k2⟩:=hx;have k1':Ra w Γ y v:=k1;have n1:h1.length=a.n:=(qec e1).length.trans a.n_eq;simp only [qdq,Rp,wat,qdb n1];exact ⟨v,us,e,qdr em hn e1 q2 (qi9 k1' q1) _,qdr em hn e2 q3 k2 _⟩
   ·cases hr
  ·cases hr
 | .opt tv,x,q,h,hr,hq,vs,hx,rest=>by
  simp only [qb9] at hr;split at hr
  ·rename_i b a;have hx:=zac hx;split at hr
   ·cases hr;have hb:b=true:=allP_one.1 hq;exact q75 (hx.2.1 hb)
   ·split at hr
    ·rename_i p h' e1;cases hr;have hq:=allP_one.1 hq;refine q83 (a:=qdq nm lens tv (h'++rest)) hx.1 hx.2.1 fun hb=>⟨?_,(hx.2.2 hb).2⟩
     obtain ⟨q1,q2⟩:=qae.1 (hq hb);obtain ⟨v,rfl⟩:=hx.1;exact qdr em hn e1 q2 (qaf (hx.2.2 hb).1 q1) rest
    ·cases hr
  ·split at hr
   ·rename_i q' p h' e1 e2;cases hr;obtain ⟨q1,q2⟩:=qa1.1 hq;obtain ⟨ad,n,c,hv⟩:=qya e1 q1 hx;have ih:=qdr em hn e2 q2 hx rest;exact q9k ih ⟨ad,n,c,hv⟩
   ·cases hr
theorem qgo (em:∀ b B,H[b]?=some (.live B)→RepB w Γ b B) (hn:Nm Γ Γ' ρ nm):∀ {l:List TV} {vs:List AV} {q:List Prop} {h:List AV} (rest:List AV),qfv ρ H lens l vs=some (q,h)→allP q →
  (qfw nm lens l (h++rest)).length=vs.length∧∀ (i:Nat) (x:AV),(qfw nm lens l (h++rest))[i]?=some x→∃ y,vs[i]?=some y∧∀ v,Ra w Γ y v→Ra w Γ' x v
 | [],[],q,h,rest,hr,_=>⟨rfl,fun i x hx=>by simp [qfw] at hx⟩
 | tv::l,v::vs,q,h,rest,hr,hq=>by
  simp only [qfv] at hr;split at hr
  ·rename_i p h1 q' r e1 e2;cases hr;obtain ⟨hq1,hq2⟩:=qae.1 hq;obtain ⟨hq2,hq3⟩:=qae.1 hq2;have hl:h1.length=tv.n:=(qec e1).length.trans tv.n_eq;obtain ⟨k1,k2⟩:=qgo em hn rest e2 hq3;simp only [qfw,wat,qdb hl];refine ⟨by simp [k1],fun i x hx=>?_⟩
   cases i with
   | zero =>
    simp only [wa7,wa0] at hx;subst hx;exact ⟨v,rfl,fun u hu=>qdr em hn e1 hq2 (qi9 hu hq1) (r++rest)⟩
   | succ i =>
    simp only [wa5] at hx ⊢;exact k2 i x hx
  ·cases hr
 | [],_::_,_,_,_,hr,_=>by simp [qfv] at hr
 | _::_,[],_,_,_,hr,_=>by simp [qfv] at hr
theorem qt7 (em:∀ b B,H[b]?=some (.live B)→RepB w Γ b B) (hn:Nm Γ Γ' ρ nm) {l:List TV} {xs:List AV} {q:List Prop} {h:List AV} (rest:List AV) (hr:qfv ρ H lens l xs=some (q,h)) (hq:allP q) {vs:List Value} (hf:Fa w Γ xs vs) :
  Fa w Γ' (qfw nm lens l (h++rest)) vs:=by
 obtain ⟨k1,k2⟩:=qgo em hn rest hr hq;refine Fa.of_get (by rw [k1,hf.length]) fun i x hx=>?_
 obtain ⟨y,hy,hm⟩:=k2 i x hx;obtain ⟨v,hv,hr⟩:=hf.get i y hy;exact ⟨v,hv,hm v hr⟩
theorem qkl {o:Option Nat} {tb:TB} {p:List Prop} {h:List AV} {ρ:List (Option Nat)} {H:List Hs} {lens:List Nat} {nm:List Nat} (hr:qcf ρ H lens o tb=some (p,h)) (rest:List AV)
  {t:Ty} {rows:List (List (Den t))} {ho:Option (Nat×Nat)} (hB:qdf nm lens (h++rest) tb=.live (.nest t rows ho)):∀ c,o=some c→Nest H c:=by
 cases tb with
 | nest t' =>
  intro c hc;subst hc;simp only [qcf] at hr;split at hr
  ·rename_i hg;exact ⟨_,_,_,qav hg⟩
  ·cases hr
 | _=>simp only [qdf] at hB;cases hB
theorem qja (em:∀ b B,H[b]?=some (.live B)→RepB w Γ b B) (hn:Nm Γ Γ' ρ nm) {j:Nat} {o:Option Nat} (hj:ρ[j]?=some o) {tb:TB} {p:List Prop} {h:List AV} (hr:qcf ρ H lens o tb=some (p,h)) (hp:allP p) (rest:List AV)
  {B:Blk} (hB:qdf nm lens (h++rest) tb=.live B) :
  (∀ b,o=some b→Live H b)∧RepB w Γ' (nmAt nm j) B:=by
 cases tb with
 | dead=>simp only [qdf] at hB;cases hB
 | view k=>simp only [qdf] at hB;cases hB
 | arr t opn =>
  cases o with
  | none =>
   obtain ⟨g1,g3⟩:=hn.no _ hj;simp only [qcf] at hr;split at hr
   ·cases hr;refine ⟨fun b h=>(nomatch h),?_⟩
    have he:qdf nm lens ([AV.val (.slice t) ([]:List (Den t))]++rest) (.arr t true)=.live (.arr t [] true):=congrArg (fun l=>Hs.live (Blk.arr t l true)) qbn
    rw [he] at hB;cases hB;simp only [RepB];exact ⟨Nat.zero_le _,(fun h=>by cases h),fun hk=>absurd g3 hk⟩
   ·cases hr
  | some b =>
   obtain ⟨g1,g2,g3⟩:=hn.so _ _ hj;simp only [qcf] at hr;split at hr
   ·rename_i t' xs o hg;split at hr
    ·rename_i ys hy;split at hr
     ·rename_i ho;cases hr;obtain ⟨e1,e2⟩:=qb1 hy;subst e1;subst e2;have hb:=em b _ (qav hg);refine ⟨fun b' h=>by cases h;exact ⟨_,qav hg⟩,?_⟩
      have he:qdf nm lens ([.val (.slice t') ys]++rest) (.arr t' opn)=.live (.arr t' ys opn):=congrArg (fun l=>Hs.live (Blk.arr t' l opn)) qbn
      rw [he] at hB;cases hB;simp only [RepB] at hb ⊢;rw [g2,g3];obtain ⟨b1,b2,b3⟩:=hb;refine ⟨b1,fun h=>?_,fun hk=>?_⟩
      ·rcases ho with ho | ho
       ·subst ho;exact b2 h
       ·rw [ho] at h;cases h
      ·obtain ⟨c,el,q1,q2,q3⟩:=b3 hk;exact ⟨c,el,q1,q2,fun i x hx=>by
        obtain ⟨cs,m1,m2⟩:=q3 i x hx;exact ⟨cs,RepC.mono hn.I (fun _ _=>rfl) t' x cs m1,m2⟩⟩
     ·cases hr
    ·cases hr
   ·cases hr
 | cells l =>
  cases o with
  | none=>simp [qcf] at hr
  | some b =>
   obtain ⟨g1,g2,g3⟩:=hn.so _ _ hj;simp only [qcf] at hr;split at hr
   ·rename_i vs hg;have hb:=em b _ (qav hg);refine ⟨fun b' h=>by cases h;exact ⟨_,qav hg⟩,?_⟩
    obtain ⟨k1,k2⟩:=qgo (w:=w) em hn rest hr hp;simp only [qdf,Hs.live.injEq] at hB;subst hB;simp only [RepB] at hb ⊢;obtain ⟨hk0,c,el,h1,h2,h3⟩:=hb;refine ⟨by rw [g3];exact hk0,c,el,by rw [g2];exact h1,by rw [k1];exact h2,fun i x hx=>?_⟩
    obtain ⟨y,hy,hm⟩:=k2 i x hx;obtain ⟨v,q1,q2,q3⟩:=h3 i y hy;exact ⟨v,q1,q2,hm v q3⟩
   ·cases hr
 | mix l t =>
  cases o with
  | none=>simp [qcf] at hr
  | some b =>
   obtain ⟨g1,g2,g3⟩:=hn.so _ _ hj;simp only [qcf] at hr;split at hr
   ·rename_i vs t' xs hg;split at hr
    ·rename_i ys p' h' hy hc;cases hr;obtain ⟨e1,e2⟩:=qb1 hy;subst e1;subst e2;have hb:=em b _ (qav hg);refine ⟨fun b' h=>by cases h;exact ⟨_,qav hg⟩,?_⟩
     obtain ⟨k1,k2⟩:=qgo (w:=w) em hn rest hc hp;have he:qdf nm lens ((.val (.slice t') ys::h')++rest) (.mix l t')=.live (.mix (qfw nm lens l (h'++rest)) t' ys):=congrArg (fun z=>Hs.live (Blk.mix (qfw nm lens l (h'++rest)) t' z)) (qbn (t:=t'))
     have he2:=he.symm.trans hB;cases he2;obtain ⟨ha,hb⟩:=qed.1 hb;refine qed.2 ⟨ha,?_⟩;simp only [RepB] at hb ⊢;obtain ⟨hk0,c,el,h1,h2,h3⟩:=hb;refine ⟨by rw [g3];exact hk0,c,el,by rw [g2];exact h1,by rw [h2];simp [mixL,k1],fun i x hx=>?_⟩
     unfold mixL at hx h3
     rcases Nat.lt_or_ge i vs.length with hi | hi
     ·rw [wag (by omega)] at hx
      obtain ⟨y,hy,hm⟩:=k2 i x hx;obtain ⟨v,q1,q2,q3⟩:=h3 i y (by rw [wag hi];exact hy)
      exact ⟨v,q1,q2,hm v q3⟩
     ·rw [wah (by omega),k1] at hx
      obtain ⟨v,q1,q2,q3⟩:=h3 i x (by rw [wah hi];exact hx)
      rw [wap] at hx
      cases hz:ys[i-vs.length]? with
      | none=>rw [hz] at hx;cases hx
      | some z =>
       rw [hz] at hx;cases hx;exact ⟨v,q1,q2,Ra_val.2 ((Ra_val.1 q3).mono hn.I (fun _ _=>rfl))⟩
    ·cases hr
   ·cases hr
 | map k v =>
  cases o with
  | none=>simp [qcf] at hr
  | some b =>
   obtain ⟨g1,g2,g3⟩:=hn.so _ _ hj;simp only [qcf] at hr;split at hr
   ·rename_i k' v' es hg;split at hr
    ·rename_i es' he;cases hr;obtain ⟨e1,e2⟩:=qar he;cases e1;subst e2;have hb:=em b _ (qav hg);refine ⟨fun b' h=>by cases h;exact ⟨_,qav hg⟩,?_⟩
     have he:qdf nm lens ([.val (.map k v) es']++rest) (.map k v)=.live (.map k v es'):=congrArg (fun l=>Hs.live (Blk.map k v l)) que
     rw [he] at hB;cases hB;simp only [RepB] at hb ⊢;rw [g2,g3];obtain ⟨b0,ents,cl,b1,b2,b3⟩:=hb;exact ⟨b0,ents,cl,b1,b2,fun i e he=>by
      obtain ⟨ent,ck,cv,m1,m2,m3,m4,m5⟩:=b3 i e he;exact ⟨ent,ck,cv,m1,RepC.mono hn.I (fun _ _=>rfl) k _ _ m2,m3,RepC.mono hn.I (fun _ _=>rfl) v _ _ m4,m5⟩⟩
    ·cases hr
   ·cases hr
 | nest t =>
  cases o with
  | none =>
   obtain ⟨g1,g3⟩:=hn.no _ hj;simp only [qcf] at hr;cases hr;refine ⟨fun b h=>(nomatch h),?_⟩
   have he:qdf nm lens ([AV.val (.slice (.slice t)) ([]:List (Den (.slice t)))]++rest) (.nest t)=.live (.nest t [] none):=congrArg (fun l=>Hs.live (Blk.nest t l none)) (qbn (t:=.slice t))
   have he2:=he.symm.trans hB;cases he2;simp only [RepB];exact ⟨Nat.zero_le _,fun hk=>absurd g3 hk⟩
  | some b =>
   obtain ⟨g1,g2,g3⟩:=hn.so _ _ hj;simp only [qcf] at hr;split at hr
   ·rename_i t' rows hg;split at hr
    ·rename_i ys hy;cases hr;obtain ⟨e1,e2⟩:=qb1 hy;cases e1;subst e2;have hb:=em b _ (qav hg);refine ⟨fun b' h=>by cases h;exact ⟨_,qav hg⟩,?_⟩
     have he:qdf nm lens ([.val (.slice (.slice t)) ys]++rest) (.nest t)=.live (.nest t ys none):=congrArg (fun l=>Hs.live (Blk.nest t l none)) (qbn (t:=.slice t))
     have he2:=he.symm.trans hB;cases he2;have hR:=hn.rr _ _ hj;simp only [RepB] at hb ⊢;rw [g2,g3,hR];obtain ⟨b1,b2⟩:=hb;refine ⟨b1,fun hk=>?_⟩
     obtain ⟨c,el,q1,q2,q3⟩:=b2 hk;exact ⟨c,el,q1,q2,fun i r hr=>by
      obtain ⟨m1,m2⟩:=q3 i r hr;exact ⟨m1.mono hn.I (fun _ _=>rfl) (fun _=>rfl),m2⟩⟩
    ·cases hr
   ·cases hr
theorem qu8 {ρ:List (Option Nat)} {H:List Hs} {lens:List Nat} {o:Option Nat} {k:Nat} {p:List Prop} {h:List AV} (hr:qcf ρ H lens o (.view k)=some (p,h)) :
  ∃ (c d i:Nat) (t:Ty) (rows:List (List (Den t))) (ho:Option (Nat×Nat)),o=some c∧H[c]?=some (.view d i false)∧isAt ρ k d=true∧hget H d=some (.nest t rows ho)∧p=[i<rows.length]∧h=[.val (.int .i64) ((i:Nat):Int)]:=by
 cases o with
 | none=>simp [qcf] at hr
 | some c =>
  simp only [qcf] at hr
  cases hc:H[c]? with
  | none=>rw [hc] at hr;cases hr
  | some x =>
   rw [hc] at hr
   cases x with
   | view d i f =>
    cases f with
    | true=>cases hr
    | false =>
     simp only at hr
     cases ha:isAt ρ k d with
     | false=>rw [ha] at hr;cases hr
     | true =>
      rw [ha] at hr;simp only at hr
      cases hg:hget H d with
      | none=>rw [hg] at hr;cases hr
      | some B =>
       rw [hg] at hr
       cases B with
       | nest t rows ho =>
        simp only [wa0,wa2] at hr;exact ⟨c,d,i,t,rows,ho,rfl,hc,ha,hg,hr.1.symm,hr.2.symm⟩
       | _=>cases hr
   | _=>cases hr
theorem qpz (em:EmbH Γ H w) (hn:Nm Γ Γ' ρ nm) {j:Nat} {o:Option Nat} (hj:ρ[j]?=some o) {tb:TB} {p:List Prop} {h:List AV} (hr:qcf ρ H lens o tb=some (p,h)) (hp:allP p) (rest:List AV)
  {b i:Nat} {f:Bool} (hB:qdf nm lens (h++rest) tb=.view b i f):Γ'.A b∧Γ'.κ (nmAt nm j)=(Γ'.R b i).2∧(Γ'.κ (nmAt nm j)≠0→Γ'.ν (nmAt nm j)=(Γ'.R b i).1):=by
 cases tb with
 | view k =>
  obtain ⟨c,d,i',t,rows,ho,rfl,hd,hat,hg,rfl,rfl⟩:=qu8 hr;have he:qdf nm lens ([AV.val (.int .i64) ((i':Nat):Int)]++rest) (.view k)=.view (nmAt nm k) i' false:=rfl;have hB:=he.symm.trans hB;cases hB;have hk:=qem hat;obtain ⟨g1,g2,g3⟩:=hn.so _ _ hk;obtain ⟨f1,f2,f3⟩:=hn.so _ _ hj;obtain ⟨v1,v2⟩:=(em.vw c d _ false hd).2 t rows ho (qav hg) (allP_one.1 hp);have hR:=hn.rr _ _ hk;rw [f2,f3,hR];exact ⟨g1,v1,v2⟩
 | dead=>simp only [qdf] at hB;cases hB
 | arr t opn=>simp only [qdf] at hB;cases hB
 | cells l=>simp only [qdf] at hB;cases hB
 | mix l t=>simp only [qdf] at hB;cases hB
 | map k v=>simp only [qdf] at hB;cases hB
 | nest t=>simp only [qdf] at hB;cases hB
theorem qb3:∀ {bl:List TB} {env:List AV},(qbh nm lens bl env).length=bl.length
 | [],_=>rfl
 | b::bl,env=>by simp [qbh,qb3 (bl:=bl)]
theorem qfe:∀ {bl:List TB} {env:List AV} {j:Nat} {x:Hs},(qbh nm lens bl env)[j]?=some x→x≠.free
 | [],_,_,_,h=>by simp [qbh] at h
 | b::bl,env,0,x,h=>by
  simp only [qbh,wa7,wa0] at h;subst h;cases b<;>simp [qdf]
 | b::bl,env,j+1,x,h=>by simp only [qbh,wa5] at h;exact qfe h
theorem qht:∀ {bs:List (Option Nat)} {bl:List TB} {q:List Prop} {r:List AV} (rest:List AV),qck ρ H lens bs bl=some (q,r)→allP q →
  bs.length=bl.length∧∀ (j:Nat) (x:Hs),(qbh nm lens bl (r++rest))[j]?=some x→∃ o tb p h rest',bs[j]?=some o∧qcf ρ H lens o tb=some (p,h)∧allP p∧x=qdf nm lens (h++rest') tb
 | [],[],q,r,rest,hr,_=>⟨rfl,fun j B hB=>by simp [qbh] at hB⟩
 | b::bs,tb::bl,q,r,rest,hr,hq=>by
  simp only [qck] at hr;split at hr
  ·rename_i p h q' r' e1 e2;cases hr;obtain ⟨hq1,hq2⟩:=qae.1 hq;obtain ⟨k1,k2⟩:=qht rest e2 hq2;refine ⟨by simp [k1],fun j B hB=>?_⟩
   simp only [qbh,wat,qdb ((qq6 e1).length.trans tb.n_eq)] at hB
   cases j with
   | zero =>
    simp only [wa7,wa0] at hB;exact ⟨b,tb,p,h,r'++rest,rfl,e1,hq1,hB.symm⟩
   | succ j =>
    simp only [wa5] at hB ⊢;exact k2 j B hB
  ·cases hr
 | [],_::_,_,_,_,hr,_=>by simp [qck] at hr
 | _::_,[],_,_,_,hr,_=>by simp [qck] at hr
theorem qen:∀ {H:List Hs},(qe1 H).length=H.length
 | []=>rfl
 | .live _::H=>by simp [qe1,qen (H:=H)]
 | .view ..::H=>by simp [qe1,qen (H:=H)]
 | .dead::H=>by simp [qe1,qen (H:=H)]
 | .free::H=>by simp [qe1,qen (H:=H)]
theorem qeh:∀ {H:List Hs} {b:Nat} {x:Hs},(qe1 H)[b]?=some x→((∀ B,x≠.live B)∧∀ c i f,x≠.view c i f)∧(x≠.free↔∃ h,H[b]?=some h∧h≠.free)
 | [],_,_,h=>by simp [qe1] at h
 | .live B::H,0,x,h=>by simp only [qe1,wa7,wa0] at h;subst h;simp
 | .view ..::H,0,x,h=>by simp only [qe1,wa7,wa0] at h;subst h;simp
 | .dead::H,0,x,h=>by simp only [qe1,wa7,wa0] at h;subst h;simp
 | .free::H,0,x,h=>by simp only [qe1,wa7,wa0] at h;subst h;simp
 | .live B::H,b+1,x,h=>by simp only [qe1,wa5] at h ⊢;exact qeh h
 | .view ..::H,b+1,x,h=>by simp only [qe1,wa5] at h ⊢;exact qeh h
 | .dead::H,b+1,x,h=>by simp only [qe1,wa5] at h ⊢;exact qeh h
 | .free::H,b+1,x,h=>by simp only [qe1,wa5] at h ⊢;exact qeh h
theorem qlf:∀ {l:List Nat} {T:List AV} {i:Nat},(qnh l T)[i]?=if i∈l then T[i]?.map fun _=>AV.undef else T[i]?
 | [],T,i=>by simp [qnh]
 | n::l,T,i=>by
  simp only [qnh];rw [qlf (l:=l),wax]
  by_cases h:n=i
  ·subst h
   by_cases h1:n<T.length
   ·by_cases h2:n∈l<;>simp [h1,h2]
   ·by_cases h2:n∈l<;>simp [h1,h2,wac (Nat.le_of_not_lt h1)]
  ·have h':¬ i=n:=fun e=>h e.symm
   by_cases h2:i∈l<;>simp [h,h',h2]
theorem qgn:∀ {l:List Nat} {T:List AV},(qnh l T).length=T.length
 | [],_=>rfl
 | n::l,T=>by simp only [qnh];rw [qgn (l:=l)];simp
theorem qhc:∀ {sl:List (Nat×TV)} {env T:List AV},(qso nm lens sl env T).length=T.length
 | [],_,_=>rfl
 | (n,tv)::sl,env,T=>by simp only [qso];rw [qhc (sl:=sl)];simp
theorem qtm (hn:Nm Γ Γ' ρ nm) {S:St} {a:Act} (em:Emb Γ S a w):∀ {sl:List (Nat×TV)} {q:List Prop} {h:List AV} (rest:List AV) {T:List AV},qu3 ρ S.H lens S.T sl=some (q,h)→allP q →
  (∀ (i:Nat) (x:AV),T[i]?=some x→∃ v,a.tmps[i]?=some v∧Ra w Γ' x v) →
  ∀ (i:Nat) (x:AV),(qso nm lens sl (h++rest) T)[i]?=some x→∃ v,a.tmps[i]?=some v∧Ra w Γ' x v
 | [],q,h,rest,T,hr,_,hT=>hT
 | (n,tv)::sl,q,h,rest,T,hr,hq,hT=>by
  simp only [qu3] at hr;split at hr
  ·rename_i p h1 q' r e1 e2;cases hr;obtain ⟨hq1,hq2⟩:=qae.1 hq;obtain ⟨hq2,hq3⟩:=qae.1 hq2;simp only [qso,wat,qdb ((qec e1).length.trans tv.n_eq)];refine qtm hn em rest e2 hq3 fun i x hx=>?_
   rw [wax] at hx;split at hx
   ·rename_i hni;subst hni;split at hx
    ·rename_i hlt;cases hx;obtain ⟨v,hv,_⟩:=hT n T[n] (wab hlt);refine ⟨v,hv,?_⟩;have:=qsl em n;have hg:a.tmps.getD n undef=v:=by
      simp [Array.getD_eq_getD_getElem?,hv]
     rw [hg] at this;exact qdr em.heap.blk hn e1 hq2 (qi9 this hq1) (r++rest)
    ·cases hx
   ·exact hT i x hx
  ·cases hr
theorem qqz {x:Nat}:∀ {l:List (Option Nat)},memO x l=true↔some x∈l
 | []=>by simp [memO]
 | some y::l=>by simp [memO,qqz (l:=l)]
 | none::l=>by simp [memO,qqz (l:=l)]
theorem qd3:∀ {l:List (Option Nat)},qiq l=true→∀ (i j b:Nat),l[i]?=some (some b)→l[j]?=some (some b)→i=j
 | [],_,i,_,_,h,_=>by simp at h
 | none::l,h,i,j,b,hi,hj=>by
  simp only [qiq] at h
  cases i with
  | zero=>simp at hi
  | succ i=>cases j with
   | zero=>simp at hj
   | succ j =>
    simp only [wa5] at hi hj;rw [qd3 h i j b hi hj]
 | some x::l,h,i,j,b,hi,hj=>by
  simp only [qiq,wa4,Bool.not_eq_true'] at h;have hx:some x∉l:=fun hm=>by rw [qqz.2 hm] at h;cases h.1
  cases i with
  | zero =>
   cases j with
   | zero=>rfl
   | succ j =>
    simp only [wa7,wa0,wa5] at hi hj;subst hi;exact absurd (wbp hj) hx
  | succ i =>
   cases j with
   | zero =>
    simp only [wa7,wa0,wa5] at hi hj;subst hj;exact absurd (wbp hi) hx
   | succ j =>
    simp only [wa5] at hi hj;rw [qd3 h.2 i j b hi hj]
theorem qi2:∀ {bl:List TB} {acc:List (Nat×Nat)} {j:Nat},(rhoL acc j bl).length=bl.length
 | [],_,_=>rfl
 | _::bl,acc,j=>by simp only [rhoL,wa6,qi2 (bl:=bl)]
theorem qhf {nm:List Nat} {lens:List Nat}:∀ {bl:List TB} {ρ:List (Option Nat)} {env:List AV} {j:Nat} {B:Blk} {o:Option Nat},(qbh nm lens bl env)[j]?=some (.live B)→ρ[j]?=some o→(qga bl ρ)[j]?=some o
 | [],_,_,j,B,o,h,_=>by simp [qbh] at h
 | tb::bl,[],_,j,B,o,_,h=>by simp at h
 | tb::bl,x::ρ,env,0,B,o,h,hj=>by
  simp only [qbh,wa7,wa0] at h hj;subst hj;cases tb<;>simp [qdf,qga] at h ⊢
 | tb::bl,x::ρ,env,j+1,B,o,h,hj=>by
  simp only [qbh,wa5] at h hj;have:=qhf h hj;cases tb<;>simpa only [qga,wa5] using this
theorem zck (em:EmbH Γ H w) {K:List Hs} {A0:Nat→Prop} (hK:∀ (b:Nat) (B:Blk),K[b]?≠some (Hs.live B)) (hKv:∀ (b c i:Nat) (f:Bool),K[b]?≠some (Hs.view c i f)) (hKA:∀ b,A0 b↔∃ h,K[b]?=some h∧h≠.free) {bl:List TB} {q:List Prop} {r:List AV} (hr:qck ρ H lens ρ bl=some (q,r)) (hq:allP q) (hnd:qiq (qga bl ρ)=true) (rest:List AV) :
  EmbH (Γ.head K.length ρ A0) (K++qbh (qa5 K.length ρ.length) lens bl (r++rest)) w ∧
  ∀ n,Wr (Γ.head K.length ρ A0) (K++qbh (qa5 K.length ρ.length) lens bl (r++rest)) n→Wr Γ H n:=by
 have hn:Nm Γ (Γ.head K.length ρ A0) ρ (qa5 K.length ρ.length):=Nm.head;obtain ⟨hrl,hrg⟩:=qht (nm:=qa5 K.length ρ.length) rest hr hq;have hlive:∀ b B,(K++qbh (qa5 K.length ρ.length) lens bl (r++rest))[b]?=some (.live B)→∃ j o,b=K.length+j∧ρ[j]?=some o∧(∀ c,o=some c→Live H c)∧RepB w (Γ.head K.length ρ A0) b B∧(qga bl ρ)[j]?=some o:=fun b B hB=>by
  rcases Nat.lt_or_ge b K.length with hlt | hge
  ·rw [wag hlt] at hB;exact absurd hB (hK b B)
  ·rw [wah hge] at hB;obtain ⟨o,tb,p',h',rest',k1,k2,k3,k4⟩:=hrg _ _ hB;obtain ⟨m1,m2⟩:=qja em.blk hn k1 k2 k3 rest' k4.symm;have hj:=qcd k1;rw [qat hj] at m2;refine ⟨b-K.length,o,by omega,k1,m1,?_,qhf hB k1⟩
   rw [show b=K.length+(b-K.length) by omega]
   exact m2
 have hlive2:∀ b,Live (K++qbh (qa5 K.length ρ.length) lens bl (r++rest)) b→(Γ.head K.length ρ A0).κ b≠0→∃ j c,b=K.length+j∧(qga bl ρ)[j]?=some (some c)∧Live H c∧Γ.κ c≠0∧(Γ.head K.length ρ A0).ν b=Γ.ν c:=fun b hb hk=>by
  obtain ⟨B,hB⟩:=hb;obtain ⟨j,o,e,k1,k2,k3,k4⟩:=hlive b B hB;subst e;have hj:=qcd k1
  cases o with
  | none =>
   have:=(hn.no _ k1).2;rw [qat hj] at this;exact absurd this hk
  | some c =>
   obtain ⟨_,g2,g3⟩:=hn.so _ _ k1;rw [qat hj] at g2 g3;exact ⟨j,c,rfl,k4,k2 c rfl,by rw [← g3];exact hk,g2⟩
 have hN:∀ b,Nest (K++qbh (qa5 K.length ρ.length) lens bl (r++rest)) b→(∃ j c,b=K.length+j∧(qga bl ρ)[j]?=some (some c)∧Nest H c∧(Γ.head K.length ρ A0).R b=Γ.R c)∨∀ i,((Γ.head K.length ρ A0).R b i).2=0:=fun b ⟨t,rw,ou,hB⟩=>by
  rcases Nat.lt_or_ge b K.length with hlt | hge
  ·rw [wag hlt] at hB;exact absurd hB (hK b _)
  ·rw [wah hge] at hB;obtain ⟨o,tb,p',h',rest',k1,k2,k3,k4⟩:=hrg _ _ hB;have hj:=qcd k1
   cases o with
   | none =>
    refine .inr fun i=>?_
    have:=hn.rn _ k1 i
    rwa [qat hj,show K.length+(b-K.length)=b by omega] at this
   | some c =>
    have hc:=qkl k2 rest' k4.symm c rfl;refine .inl ⟨b-K.length,c,by omega,qhf hB k1,hc,?_⟩
    have:=hn.rr _ _ k1
    rwa [qat hj,show K.length+(b-K.length)=b by omega] at this
 have hNO:∀ b n,Nest (K++qbh (qa5 K.length ρ.length) lens bl (r++rest)) b→(Γ.head K.length ρ A0).O b n→∃ j c,b=K.length+j∧(qga bl ρ)[j]?=some (some c)∧Nest H c∧Γ.O c n:=fun b n hb ⟨i,h1,h2⟩=>by
  rcases hN b hb with ⟨j,c,g1,g2,g3,g4⟩ | g
  ·exact ⟨j,c,g1,g2,g3,(Cx.O_congr g4).1 ⟨i,h1,h2⟩⟩
  ·exact absurd (g i) h1
 refine ⟨⟨fun b B hB=>?_,fun b b' hb hb' hk hk' he=>?_,fun b hb hk=>?_,em.old,fun b=>?_,⟨fun b b' n h h' ho ho'=>?_,fun b b' n h h' hk ho he=>?_,fun b n h ho=>?_,fun b n h ho=>?_,fun b i i' h h1 h2 h3=>?_⟩,fun m b i f hm=>?_⟩,fun n hn=>?_⟩
 ·obtain ⟨j,o,e,k1,k2,k3,_⟩:=hlive b B hB;exact k3
 ·obtain ⟨j,c,e1,k1,k2,k0,k3⟩:=hlive2 b hb hk;obtain ⟨j',c',e1',k1',k2',k0',k3'⟩:=hlive2 b' hb' hk';have hcc:c=c':=em.inj c c' k2 k2' k0 k0' (by rw [← k3,← k3'];exact he)
  subst hcc;have:=qd3 hnd j j' c k1 k1';omega
 ·obtain ⟨j,c,e1,k1,k2,k0,k3⟩:=hlive2 b hb hk;rw [k3];exact em.imm c k2 k0
 ·simp only [Cx.head]
  rcases Nat.lt_or_ge b K.length with hlt | hge
  ·rw [wag hlt];constructor
   ·rintro (hA | hA)
    ·exact (hKA b).1 hA
    ·omega
   ·intro h;exact .inl ((hKA b).2 h)
  ·rw [wah hge];constructor
   ·rintro (hA | hA)
    ·obtain ⟨h,hh,_⟩:=(hKA b).1 hA;have:=qcd hh;omega
    ·have hlt':b-K.length<(qbh (qa5 K.length ρ.length) lens bl (r++rest)).length:=by rw [qb3,← hrl];omega
     exact ⟨_,wab hlt',qfe (wab hlt')⟩
   ·rintro ⟨x,hx,hne⟩;have:=qcd hx;rw [qb3,← hrl] at this;exact .inr ⟨hge,by omega⟩
 ·obtain ⟨j,c,e1,k1,k2,k3⟩:=hNO b n h ho;obtain ⟨j',c',e1',k1',k2',k3'⟩:=hNO b' n h' ho';have hcc:c=c':=em.rows.dis c c' n k2 k2' k3 k3';subst hcc;have:=qd3 hnd j j' c k1 k1';omega
 ·obtain ⟨j,c,e1,k1,k2,k3⟩:=hNO b n h ho;obtain ⟨j',c',e1',k1',k2',k0',k3'⟩:=hlive2 b' h' hk;exact em.rows.main c c' n k2 k2' k0' k3 (k3'.symm.trans he)
 ·obtain ⟨j,c,e1,k1,k2,k3⟩:=hNO b n h ho;exact em.rows.imm c n k2 k3
 ·obtain ⟨j,c,e1,k1,k2,k3⟩:=hNO b n h ho;exact em.rows.lt c n k2 k3
 ·rcases hN b h with ⟨j,c,g1,g2,g3,g4⟩ | g
  ·rw [g4] at h1 h2 h3;exact em.rows.one c i i' g3 h1 h2 h3
  ·exact absurd (g i) h1
 ·rcases Nat.lt_or_ge m K.length with hlt | hge
  ·rw [wag hlt] at hm;exact absurd hm (hKv _ _ _ _)
  ·rw [wah hge] at hm;obtain ⟨o,tb,p',h',rest',k1,k2,k3,k4⟩:=hrg _ _ hm;obtain ⟨m1,m2⟩:=qpz em hn k1 k2 k3 rest' k4.symm;rw [qat (qcd k1),show K.length+(m-K.length)=m by omega] at m2
   exact ⟨m1,fun _ _ _ _ _=>m2⟩
 ·rcases hn with ⟨b,hb,hk,he⟩ | ⟨b,hb,hn⟩
  ·obtain ⟨j,c,e1,k1,k2,k0,k3⟩:=hlive2 b hb hk;exact .inl ⟨c,k2,k0,by rw [← k3];exact he⟩
  ·obtain ⟨j,c,e1,k1,k2,k3⟩:=hNO b n hb hn;exact .inr ⟨c,k2,k3⟩
theorem qjr:∀ {n j:Nat} {ρ:List (Option Nat)},idOk j n ρ=true→∀ i,i<n→ρ[i]?=some (some (j+i))
 | n+1,j,some b::ρ,h,i,hi=>by
  simp only [idOk,wa4] at h
  cases i with
  | zero =>
   have:b=j:=waj h.1;subst this;rfl
  | succ i =>
   have:=qjr h.2 i (by omega)
   simp only [wa5,this];congr 2;omega
 | 0,_,_,_,i,hi=>by omega
 | n+1,j,[],h,i,hi=>by simp [idOk] at h
 | n+1,j,none::ρ,h,i,hi=>by simp [idOk] at h
theorem qh3:∀ {k:Nat} {H:List Hs},qok k H=true→k≤H.length∧∀ j,j<k→∃ h,H[j]?=some h∧h≠.free
 | 0,H,_=>⟨Nat.zero_le _,fun j hj=>by omega⟩
 | k+1,x::H,h=>by
  cases x with
  | free=>simp [qok] at h
  | dead =>
   obtain ⟨h1,h2⟩:=qh3 (k:=k) (H:=H) (by simpa [qok] using h)
   refine ⟨by simp;omega,fun j hj=>?_⟩
   cases j with
   | zero=>exact ⟨_,rfl,by simp⟩
   | succ j=>simpa using h2 j (by omega)
  | live B =>
   obtain ⟨h1,h2⟩:=qh3 (k:=k) (H:=H) (by simpa [qok] using h)
   refine ⟨by simp;omega,fun j hj=>?_⟩
   cases j with
   | zero=>exact ⟨_,rfl,by simp⟩
   | succ j=>simpa using h2 j (by omega)
  | view c i f =>
   obtain ⟨h1,h2⟩:=qh3 (k:=k) (H:=H) (by simpa [qok] using h)
   refine ⟨by simp;omega,fun j hj=>?_⟩
   cases j with
   | zero=>exact ⟨_,rfl,by simp⟩
   | succ j=>simpa using h2 j (by omega)
 | k+1,[],h=>by simp [qok] at h
theorem qww:∀ {k:Nat} {B K:List Hs} {d:Nat},k≤B.length→k≤K.length→∀ i,(pinH k B K d)[i]?=if i<k then B[i]? else if i<K.length then K[i]? else if i<K.length+d+k then some .dead else B[i-(K.length+d)]?
 | 0,B,K,d,_,_,i=>by
  have e:pinH 0 B K d=K++(List.replicate d .dead++B):=by cases B<;>cases K<;>rfl
  rw [e,if_neg (by omega)]
  by_cases h1:i<K.length
  ·rw [if_pos h1,wag h1]
  ·rw [if_neg h1,wah (by omega)]
   by_cases h2:i<K.length+d
   ·rw [if_pos (by omega),wag (by simp;omega),way,if_pos (by omega)]
   ·rw [if_neg (by omega),wah (by simp;omega),war]
    congr 1;omega
 | k+1,b::B,x::K,d,h1,h2,i=>by
  simp only [pinH];simp only [wa6] at h1 h2
  cases i with
  | zero=>rw [if_pos (by omega)];rfl
  | succ i =>
   rw [wa5,qww (by omega) (by omega) i]
   simp only [wa6,wa5]
   by_cases g1:i<k
   ·rw [if_pos g1,if_pos (by omega)]
   ·rw [if_neg g1,if_neg (show ¬ i+1<k+1 by omega)]
    by_cases g2:i<K.length
    ·rw [if_pos g2,if_pos (by omega)]
    ·rw [if_neg g2,if_neg (show ¬ i+1<K.length+1 by omega)]
     by_cases g3:i<K.length+(d+1)+k
     ·rw [if_pos g3,if_pos (by omega)]
     ·rw [if_neg g3,if_neg (by omega)]
      rw [show i+1-(K.length+1+d)=(i-(K.length+(d+1)))+1 by omega,wa5]
 | k+1,[],K,d,h1,_,_=>by simp at h1
 | k+1,_::_,[],d,_,h2,_=>by simp at h2
theorem qfr {k len n j:Nat} (hk:k≤n) (hj:j<n):nmAt (qtc k len n) j=if j<k then j else len+j:=by
 have key:∀ (a b:List Nat) (j:Nat),nmAt (a++b) j=if j<a.length then nmAt a j else nmAt b (j-a.length):=by
  intro a
  induction a with
  | nil=>intro b j;simp
  | cons x a ih =>
   intro b j
   cases j with
   | zero=>simp [nmAt]
   | succ j =>
    simp only [wbf,nmAt,wa6,ih]
    by_cases h:j<a.length
    ·rw [if_pos h,if_pos (by omega)]
    ·rw [if_neg h,if_neg (by omega)];congr 1;omega
 have hl:∀ (a m:Nat),(qa5 a m).length=m:=by
  intro a m
  induction m generalizing a with
  | zero=>rfl
  | succ m ih=>simp [qa5,ih]
 unfold qtc;rw [key,hl]
 by_cases h:j<k
 ·rw [if_pos h,if_pos h,qat h];omega
 ·rw [if_neg h,if_neg h,qat (by omega)];omega
theorem q5d (em:EmbH Γ H w) {nm:List Nat} {K:List Hs} (hn:Nm Γ Γ' ρ nm) (hI:∀ n,Γ'.I n→Γ.I n) {bl:List TB} {q:List Prop} {r:List AV} (hr:qck ρ H lens ρ bl=some (q,r)) (hq:allP q) (hnd:qiq (qga bl ρ)=true) (rest:List AV)
  (hlay:∀ (b:Nat) (B:Blk),K[b]?=some (.live B)→∃ j,nmAt nm j=b∧(qbh nm lens bl (r++rest))[j]?=some (.live B)) (hA:∀ b,Γ'.A b↔∃ h,K[b]?=some h∧h≠.free) (hKv:∀ (b c i:Nat) (f:Bool),K[b]?=some (.view c i f)→∃ j,nmAt nm j=b∧(qbh nm lens bl (r++rest))[j]?=some (.view c i f)) :
  EmbH Γ' K w∧∀ n,Wr Γ' K n→Wr Γ H n:=by
 obtain ⟨hrl,hrg⟩:=qht (nm:=nm) rest hr hq;have hlive:∀ (b:Nat) (B:Blk),K[b]?=some (.live B)→∃ j o,b=nmAt nm j∧ρ[j]?=some o∧(∀ c,o=some c→Live H c)∧RepB w Γ' b B∧(qga bl ρ)[j]?=some o:=fun b B hB=>by
  obtain ⟨j,e,hj⟩:=hlay b B hB;obtain ⟨o,tb,p',h',rest',k1,k2,k3,k4⟩:=hrg _ _ hj;obtain ⟨m1,m2⟩:=qja em.blk hn k1 k2 k3 rest' k4.symm;exact ⟨j,o,e.symm,k1,m1,e▸m2,qhf hj k1⟩
 have hlive2:∀ b,Live K b→Γ'.κ b≠0→∃ j c,b=nmAt nm j∧(qga bl ρ)[j]?=some (some c)∧Live H c∧Γ.κ c≠0∧Γ'.ν b=Γ.ν c:=fun b hb hk=>by
  obtain ⟨B,hB⟩:=hb;obtain ⟨j,o,e,k1,k2,k3,k4⟩:=hlive b B hB;subst e
  cases o with
  | none=>exact absurd (hn.no _ k1).2 hk
  | some c =>
   obtain ⟨_,g2,g3⟩:=hn.so _ _ k1;exact ⟨j,c,rfl,k4,k2 c rfl,by rw [← g3];exact hk,g2⟩
 have hN:∀ b,Nest K b→(∃ j c,b=nmAt nm j∧(qga bl ρ)[j]?=some (some c)∧Nest H c∧Γ'.R b=Γ.R c)∨∀ i,(Γ'.R b i).2=0:=fun b ⟨t,rw,ou,hB⟩=>by
  obtain ⟨j,e,hj⟩:=hlay b _ hB;obtain ⟨o,tb,p',h',rest',k1,k2,k3,k4⟩:=hrg _ _ hj
  cases o with
  | none=>exact .inr fun i=>e▸hn.rn _ k1 i
  | some c=>exact .inl ⟨j,c,e.symm,qhf hj k1,qkl k2 rest' k4.symm c rfl,e▸hn.rr _ _ k1⟩
 have hNO:∀ b n,Nest K b→Γ'.O b n→∃ j c,b=nmAt nm j∧(qga bl ρ)[j]?=some (some c)∧Nest H c∧Γ.O c n:=fun b n hb ⟨i,h1,h2⟩=>by
  rcases hN b hb with ⟨j,c,g1,g2,g3,g4⟩ | g
  ·exact ⟨j,c,g1,g2,g3,(Cx.O_congr g4).1 ⟨i,h1,h2⟩⟩
  ·exact absurd (g i) h1
 refine ⟨⟨fun b B hB=>?_,fun b b' hb hb' hk hk' he=>?_,fun b hb hk hi=>?_,fun n h=>em.old n (hI n h),hA,⟨fun b b' n h h' ho ho'=>?_,fun b b' n h h' hk ho he=>?_,fun b n h ho=>?_,fun b n h ho=>?_,fun b i i' h h1 h2 h3=>?_⟩,fun m b i f hm=>?_⟩,fun n hn=>?_⟩
 ·obtain ⟨j,o,e,k1,k2,k3,_⟩:=hlive b B hB;exact k3
 ·obtain ⟨j,c,e1,k1,k2,k0,k3⟩:=hlive2 b hb hk;obtain ⟨j',c',e1',k1',k2',k0',k3'⟩:=hlive2 b' hb' hk';have hcc:c=c':=em.inj c c' k2 k2' k0 k0' (by rw [← k3,← k3'];exact he)
  subst hcc;have:=qd3 hnd j j' c k1 k1';subst this;rw [e1,e1']
 ·obtain ⟨j,c,e1,k1,k2,k0,k3⟩:=hlive2 b hb hk;rw [k3] at hi;exact em.imm c k2 k0 (hI _ hi)
 ·obtain ⟨j,c,e1,k1,k2,k3⟩:=hNO b n h ho;obtain ⟨j',c',e1',k1',k2',k3'⟩:=hNO b' n h' ho';have hcc:c=c':=em.rows.dis c c' n k2 k2' k3 k3';subst hcc;have:=qd3 hnd j j' c k1 k1';subst this;rw [e1,e1']
 ·obtain ⟨j,c,e1,k1,k2,k3⟩:=hNO b n h ho;obtain ⟨j',c',e1',k1',k2',k0',k3'⟩:=hlive2 b' h' hk;exact em.rows.main c c' n k2 k2' k0' k3 (k3'.symm.trans he)
 ·obtain ⟨j,c,e1,k1,k2,k3⟩:=hNO b n h ho;exact fun hi=>em.rows.imm c n k2 k3 (hI _ hi)
 ·obtain ⟨j,c,e1,k1,k2,k3⟩:=hNO b n h ho;exact em.rows.lt c n k2 k3
 ·rcases hN b h with ⟨j,c,g1,g2,g3,g4⟩ | g
  ·rw [g4] at h1 h2 h3;exact em.rows.one c i i' g3 h1 h2 h3
  ·exact absurd (g i) h1
 ·obtain ⟨j,e,hj⟩:=hKv m b i f hm;obtain ⟨o,tb,p',h',rest',k1,k2,k3,k4⟩:=hrg _ _ hj;obtain ⟨m1,m2⟩:=qpz em hn k1 k2 k3 rest' k4.symm;rw [e] at m2;exact ⟨m1,fun _ _ _ _ _=>m2⟩
 ·rcases hn with ⟨b,hb,hk,he⟩ | ⟨b,hb,hn⟩
  ·obtain ⟨j,c,e1,k1,k2,k0,k3⟩:=hlive2 b hb hk;exact .inl ⟨c,k2,k0,by rw [← k3];exact he⟩
  ·obtain ⟨j,c,e1,k1,k2,k3⟩:=hNO b n hb hn;exact .inr ⟨c,k2,k3⟩
theorem q6v {Γ0:Cx} {S0 S:St} {a0 a:Act} {w0:World} (em0:Emb Γ0 S0 a0 w0) (em:Emb Γ S a w) (hx:Ext Γ0 S0.H w0 Γ S.H w) {asg:List Nat} (hlen:S.T.length=S0.T.length) (hT:∀ n,n∉asg→S.T[n]?=S0.T[n]?)
  {sl:List (Nat×TV)} {bl:List TB} {k:Nat} (hpin0:qok k S0.H=true) {obs:List Prop} {env:List AV} (hr:qs4 sl bl k S=some (obs,env)) (hob:allP obs) :
  ∃ Γ',Emb Γ' (qjy asg sl bl k S0 env) a w∧Ext Γ0 S0.H w0 Γ' (qjy asg sl bl k S0 env).H w:=by
 simp only [qs4] at hr;have hρl:(rhoL (qdk S.H 0 bl (qu5 0 k++q40 S.T sl)) 0 bl).length=bl.length:=qi2;generalize rhoL (qdk S.H 0 bl (qu5 0 k++q40 S.T sl)) 0 bl=ρ at hr hρl;split at hr
 ·rename_i hnd;simp only [wa4] at hnd;obtain ⟨hnd,hid,_⟩:=hnd;have hid:=qjr hid;obtain ⟨hk0,hpin0⟩:=qh3 hpin0;have hkb:k≤bl.length:=by
   rcases Nat.eq_zero_or_pos k with h0 | h0
   ·omega
   ·have:=qcd (hid (k-1) (by omega));omega
  split at hr
  ·rename_i p h q r e1 e2;cases hr;obtain ⟨hp,hq⟩:=qae.1 hob;have hdrop:qge (cntS sl) (h++r)=r:=qdb ((qrn e1).length.trans qzw);have hle:qt1 bl r=qfi S.H ρ bl:=by have:=quv [] e2;rwa [wbw] at this
   have hA0:∀ b,Γ0.A b→b<S0.H.length:=fun b hb=>by
    obtain ⟨x,hx,_⟩:=(em0.heap.al b).1 hb;exact qbi hx
   have hA1:∀ j,j<k→Γ0.A j:=fun j hj=>(em0.heap.al j).2 (hpin0 j hj)
   have hAR:∀ b,Γ0.A b→(Γ.head S0.H.length ρ Γ0.A).A b∧(Γ.head S0.H.length ρ Γ0.A).ν b=Γ.ν b∧(Γ.head S0.H.length ρ Γ0.A).κ b=Γ.κ b:=fun b hb=>by
    refine ⟨.inl hb,?_,?_⟩<;>simp only [Cx.head]<;>rw [if_pos (hA0 b hb)]
   have hn0:Nm Γ (Γ.head S0.H.length ρ Γ0.A) ρ (qa5 S0.H.length bl.length):=hρl▸Nm.head;have hn:Nm Γ (Γ.head S0.H.length ρ Γ0.A) ρ (qtc k S0.H.length bl.length):=by
    refine ⟨hn0.I,fun j b hj=>?_,fun j hj=>?_,fun j b hj=>?_,fun j hj i=>?_⟩
    ·have hjl:j<bl.length:=by have:=qcd hj;omega
     rw [qfr hkb hjl]
     by_cases h:j<k
     ·rw [if_pos h];have:=hid j h;rw [hj,wa8] at this;cases this;exact hAR j (hA1 j h)
     ·rw [if_neg h];have:=hn0.so j b hj
      rwa [qat hjl] at this
    ·have hjl:j<bl.length:=by have:=qcd hj;omega
     rw [qfr hkb hjl]
     by_cases h:j<k
     ·have:=hid j h;rw [hj] at this;cases this
     ·rw [if_neg h];have:=hn0.no j hj
      rwa [qat hjl] at this
    ·have hjl:j<bl.length:=by have:=qcd hj;omega
     rw [qfr hkb hjl]
     by_cases h:j<k
     ·rw [if_pos h];have:=hid j h;rw [hj,wa8] at this;cases this;simp only [Cx.head];rw [if_pos (hA0 j (hA1 j h))]
     ·rw [if_neg h];have:=hn0.rr j b hj
      rwa [qat hjl] at this
    ·have hjl:j<bl.length:=by have:=qcd hj;omega
     rw [qfr hkb hjl]
     by_cases h:j<k
     ·have:=hid j h;rw [hj] at this;cases this
     ·rw [if_neg h];have:=hn0.rn j hj i
      rwa [qat hjl] at this
   have hKl:(qe1 S0.H).length=S0.H.length:=qen;have hget:=fun (i:Nat)=>qww (k:=k) (B:=qbh (qtc k S0.H.length bl.length) (qfi S.H ρ bl) bl r) (K:=qe1 S0.H) (d:=0) (by rw [qb3];exact hkb) (by rw [hKl];exact hk0) i
   have hrl:=q5d (K:=pinH k (qbh (qtc k S0.H.length bl.length) (qfi S.H ρ bl) bl r) (qe1 S0.H) 0) em.heap hn (fun _ h=>h) e2 hq hnd [] (fun b B hB=>by
    rw [hget] at hB;rw [wbw];split at hB
    ·rename_i hb;exact ⟨b,by rw [qfr hkb (by omega),if_pos hb],hB⟩
    ·rename_i hb;split at hB
     ·exact absurd rfl ((qeh hB).1.1 B)
     ·split at hB
      ·cases hB
      ·rename_i h1 h2;rw [hKl] at h1;rw [hKl,Nat.add_zero] at h2 hB;have hlt:=qcd hB;rw [qb3] at hlt;exact ⟨b-S0.H.length,by rw [qfr hkb hlt,if_neg (by omega)];omega,hB⟩) (fun b=>by
    rw [hget,hKl,Nat.add_zero];have hlive:∀ i,i<bl.length→∃ x,(qbh (qtc k S0.H.length bl.length) (qfi S.H ρ bl) bl r)[i]?=some x∧x≠.free:=fun i hi=>by
     have hi':i<(qbh (qtc k S0.H.length bl.length) (qfi S.H ρ bl) bl r).length:=by rw [qb3];exact hi
     exact ⟨_,wab hi',qfe (wab hi')⟩
    simp only [Cx.head];split
    ·rename_i hb;exact ⟨fun _=>hlive b (by omega),fun _=>.inl (hA1 b hb)⟩
    ·rename_i hb;split
     ·rename_i h1;constructor
      ·rintro (hA | hA)
       ·have hlt':b<(qe1 S0.H).length:=by rw [hKl];exact h1
        exact ⟨_,wab hlt',(qeh (wab hlt')).2.2 ((em0.heap.al b).1 hA)⟩
       ·omega
      ·rintro ⟨x,hx,hne⟩;exact .inl ((em0.heap.al b).2 ((qeh hx).2.1 hne))
     ·rename_i h1;split
      ·rename_i h2;exact ⟨fun _=>⟨_,rfl,by simp⟩,fun _=>.inr (by omega)⟩
      ·rename_i h2;constructor
       ·rintro (hA | hA)
        ·exact absurd (hA0 b hA) h1
        ·exact hlive _ (by omega)
       ·rintro ⟨x,hx,_⟩;have:=qcd hx;rw [qb3] at this;exact .inr (by omega)) (fun b c i f hB=>by
    rw [hget] at hB;rw [wbw];split at hB
    ·rename_i hb;exact ⟨b,by rw [qfr hkb (by omega),if_pos hb],hB⟩
    ·rename_i hb;split at hB
     ·exact absurd rfl ((qeh hB).1.2 c i f)
     ·split at hB
      ·cases hB
      ·rename_i h1 h2;rw [hKl] at h1;rw [hKl,Nat.add_zero] at h2 hB;have hlt:=qcd hB;rw [qb3] at hlt;exact ⟨b-S0.H.length,by rw [qfr hkb hlt,if_neg (by omega)];omega,hB⟩)
   simp only [qjy,hdrop,hle];refine ⟨Γ.head S0.H.length ρ Γ0.A,⟨em.defers,?_,?_,hrl.1⟩,?_⟩
   ·simp only [q2h];rw [qhc,qgn,em.size,hlen]
   ·simp only [q2h];refine qtm hn em r e1 hp fun i x hx=>?_
    rw [qlf] at hx;split at hx
    ·rename_i hi
     cases hi':S0.T[i]? with
     | none=>rw [hi'] at hx;cases hx
     | some y =>
      rw [hi'] at hx;cases hx;have hlt:i<a.tmps.size:=by rw [em.size,hlen];exact (List.getElem?_eq_some_iff.1 hi').1
      exact ⟨_,Array.getElem?_eq_getElem hlt,qcp⟩
    ·rename_i hi;obtain ⟨v0,_,hv0⟩:=em0.tmp i x hx;rw [← hT i hi] at hx;obtain ⟨v,hv,hv'⟩:=em.tmp i x hx;exact ⟨v,hv,Rp.shift (Γ:=Γ) (Γ':=Γ.head S0.H.length ρ Γ0.A) (Γ0:=Γ0) (fun _ h=>h) hAR x _ _ hv0 hv'⟩
   ·refine ⟨hx.fr,hx.size,hx.os,hx.out,fun n hn=>hx.wr n (hrl.2 n hn),hx.im,hx.mi,fun b hb=>?_⟩
    obtain ⟨g1,g2,g3⟩:=hAR b hb;obtain ⟨f1,f2,f3⟩:=hx.al b hb;exact ⟨g1,g2.trans f2,g3.trans f3⟩
  ·cases hr
 ·cases hr
end
inductive Ex where
 | normal
 | exit (id:Nat)
 | ret
open Classical in
def gd {X:Type} (p:Prop) (x:Option X):Option X:=if p then x else none
theorem qa2 {X:Type} {p:Prop} {x:Option X} (h:p):gd p x=x:=if_pos h
theorem qbu {X:Type} {p:Prop} {x:Option X} {y:X}:gd p x=some y↔p∧x=some y:=by
 unfold gd;split
 ·rename_i h;exact ⟨fun e=>⟨h,e⟩,fun e=>e.2⟩
 ·rename_i h;exact ⟨fun e=>(nomatch e),fun e=>absurd e.1 h⟩
theorem q7k {X Y:Type} {p:Prop} {x:Option X} {f:X→Y}:(gd p x).map f=gd p (x.map f):=by
 unfold gd;split<;>rfl
def gdL {X:Type}:List Prop→Option X→Option X
 | [],x=>x
 | p::l,x=>gd p (gdL l x)
theorem qbl {X:Type} {x:Option X} {y:X}:∀ {l:List Prop},gdL l x=some y↔allP l∧x=some y
 | []=>⟨fun h=>⟨allP_nil,h⟩,fun h=>h.2⟩
 | p::l=>by simp only [gdL,qbu,qbl (l:=l),qa1,and_assoc]
theorem qd4 {X Y:Type} {x:Option X} {f:X→Y}:∀ {l:List Prop},(gdL l x).map f=gdL l (x.map f)
 | []=>rfl
 | p::l=>by simp only [gdL,q7k,qd4 (l:=l)]
def eqO {X:Type} (P:Prop) (a b:Option X):Option X:=match b with
 | some r=>gd (P→a=some r) (some r)
 | none=>none
theorem qh4 {X:Type} {P:Prop} {a b:Option X} {x:X}:eqO P a b=some x↔b=some x∧(P→a=some x):=by
 cases b with
 | none=>simp [eqO]
 | some r =>
  simp only [eqO,qbu,wa0];constructor
  ·rintro ⟨h,rfl⟩;exact ⟨rfl,h⟩
  ·rintro ⟨rfl,h⟩;exact ⟨h,rfl⟩
inductive Lp (S X:Type) where
 | go (s:S)
 | out (x:X)
def Lp.map {S X Y:Type} (f:X→Y):Lp S X→Lp S Y
 | .go s=>.go s
 | .out x=>.out (f x)
theorem Lp.map_id {S X:Type}:∀ {l:Lp S X},Lp.map id l=l
 | .go _=>rfl
 | .out _=>rfl
section
variable {S X Y:Type}
def qcv (step:S→Option (Lp S X)):Nat→S→Option X
 | 0,_=>none
 | n+1,s=>match step s with
  | some (.go s')=>qcv step n s'
  | some (.out x)=>some x
  | none=>none
theorem qnx {step:S→Option (Lp S X)}:∀ {n:Nat} {s:S} {x:X},qcv step n s=some x→qcv step (n+1) s=some x
 | 0,_,_,h=>by cases h
 | n+1,s,x,h=>by
  rw [qcv] at h ⊢;split at h
  ·exact qnx h
  ·exact h
  ·cases h
theorem qty {step:S→Option (Lp S X)} {n m:Nat} {s:S} {x:X} (hm:n≤m) (h:qcv step n s=some x):qcv step m s=some x:=by
 induction hm with
 | refl=>exact h
 | step _ ih=>exact qnx ih
open Classical in
def qb0 (step:S→Option (Lp S X)) (s:S):Option X :=
 if h:∃ n x,qcv step n s=some x then some h.choose_spec.choose else none
theorem qcl {step:S→Option (Lp S X)} {s:S} {x:X}:qb0 step s=some x↔∃ n,qcv step n s=some x:=by
 unfold qb0;constructor
 ·intro h;split at h
  ·rename_i hh;have:=hh.choose_spec.choose_spec;rw [wa0] at h;rw [h] at this;exact ⟨_,this⟩
  ·cases h
 ·rintro ⟨n,hn⟩;have hh:∃ n x,qcv step n s=some x:=⟨n,x,hn⟩;rw [dif_pos hh];have h2:=hh.choose_spec.choose_spec;have h3:=qty (Nat.le_max_left n hh.choose) hn;have h4:=qty (Nat.le_max_right n hh.choose) h2;rw [h3] at h4;cases h4;rfl
theorem qnf (step:S→Option (Lp S X)) (s:S):qb0 step s=match step s with
  | some (.go s')=>qb0 step s'
  | some (.out x)=>some x
  | none=>none:=by
 apply Option.ext;intro x;rw [qcl];constructor
 ·rintro ⟨n,h⟩
  cases n with
  | zero=>cases h
  | succ n =>
   rw [qcv] at h;split at h
   ·exact qcl.2 ⟨n,h⟩
   ·exact h
   ·cases h
 ·intro h;split at h
  ·rename_i e;obtain ⟨n,hn⟩:=qcl.1 h;exact ⟨n+1,by rw [qcv,e];exact hn⟩
  ·rename_i e;exact ⟨1,by rw [qcv,e];exact h⟩
  ·cases h
theorem qmw {step step':S→Option (Lp S X)} (hs:∀ s r,step s=some r→step' s=some r):∀ {n:Nat} {s:S} {x:X},qcv step n s=some x→qcv step' n s=some x
 | 0,_,_,h=>by cases h
 | n+1,s,x,h=>by
  rw [qcv] at h ⊢;split at h
  ·rename_i e;rw [hs _ _ e];exact qmw hs h
  ·rename_i e;rw [hs _ _ e];exact h
  ·cases h
theorem qm8 {step step':S→Option (Lp S X)} (hs:∀ s r,step s=some r→step' s=some r) {s:S} {x:X} (h:qb0 step s=some x):qb0 step' s=some x:=by
 obtain ⟨n,h⟩:=qcl.1 h;exact qcl.2 ⟨n,qmw hs h⟩
theorem qkw {step:S→Option (Lp S X)} {f:X→Y}:∀ {n:Nat} {s:S},qcv (fun s=>(step s).map (Lp.map f)) n s=(qcv step n s).map f
 | 0,_=>rfl
 | n+1,s=>by
  rw [qcv,qcv]
  cases h:step s with
  | none=>rfl
  | some r=>cases r with
   | go s'=>exact qkw
   | out x=>rfl
theorem qyx {step:S→Option (Lp S X)} {f:X→Y} {s:S}:qb0 (fun s=>(step s).map (Lp.map f)) s=(qb0 step s).map f:=by
 apply Option.ext;intro y;rw [qcl];constructor
 ·rintro ⟨n,h⟩;rw [qkw] at h;obtain ⟨x,h1,rfl⟩:=Option.map_eq_some_iff.1 h;rw [qcl.2 ⟨n,h1⟩];rfl
 ·intro h;obtain ⟨x,h1,rfl⟩:=Option.map_eq_some_iff.1 h;obtain ⟨n,hn⟩:=qcl.1 h1;exact ⟨n,by rw [qkw,hn];rfl⟩
end
def Dens:List Ty→Type
 | []=>Unit
 | t::ts=>Den t×Dens ts
def qbc:(ts:List Ty)→Dens ts→List AV
 | [],_=>[]
 | t::ts,x=>.val t x.1::qbc ts x.2
def toD:(ts:List Ty)→List AV→Option (Dens ts)
 | [],[]=>some ()
 | t::ts,x::xs=>match asD t x,toD ts xs with
  | some y,some l=>some (y,l)
  | _,_=>none
 | _,_=>none
theorem q22:∀ {ts:List Ty} {env:List AV} {d:Dens ts},toD ts env=some d→qde ts env→env=qbc ts d
 | [],[],d,h,_=>rfl
 | t::ts,x::xs,d,h,he=>by
  obtain ⟨⟨z,rfl⟩,he⟩:=he;simp only [toD] at h;split at h
  ·rename_i y l e1 e2;cases h;have e1:qbb t t z=some y:=e1;rw [qct] at e1;cases e1;simp only [qbc];rw [q22 e2 he]
  ·cases h
 | [],_::_,_,h,_=>by simp [toD] at h
 | _::_,[],_,h,_=>by simp [toD] at h
structure LSh where mk3 ::
 sl:List (Nat×TV)
 bl:List TB
 pin:Nat
abbrev LSh.mk (sl:List (Nat×TV)) (bl:List TB):LSh:=⟨sl,bl,0⟩
def LSh.ts (l:LSh):List Ty:=tsS l.sl++tsB l.bl
def qc2:List (Nat×TV)→List Nat
 | []=>[]
 | p::l=>p.1::qc2 l
def qim:List AOp→List Nat
 | []=>[]
 | o::l=>match o.dst with
  | some d=>d::qim l
  | none=>qim l
def asg (L:List LSh):AC→List Nat
 | .reg _ ops _=>qim ops
 | .seq a b=>asg L a++asg L b
 | .ite _ a b=>asg L a++asg L b
 | .blk _ a=>asg L a
 | .frz j=>[j]
 | .loop m a=>asg L a++(match L[m.headD 0]? with | some ls=>qc2 ls.sl | none=>[])
 | _=>[]
def frees:Nat→List Hs
 | 0=>[]
 | n+1=>.free::frees n
def frzS (S:St) (j:Nat):Option (List Prop×St):=match S.T.getD j .undef with
 | .sl b s i len _=>match hget S.H b with
  | some (.arr t xs _)=>match Nat.beq s (sz t) with
   | true=>some ([i+len≤xs.length],⟨S.T.set j (.val (.slice t) ((xs.drop i).take len)),S.H.set b .dead⟩)
   | false=>none
  | _=>none
 | _=>none
abbrev KT (X:Type):=(Y:Type)→(X→Y)→Ex→St→Option Y
def qkf {X:Type} (ls:LSh) (K:KT X):KT (Lp (Dens ls.ts) X):=fun Z g e S=>match e with
 | .normal=>match qs4 ls.sl ls.bl ls.pin S with
  | some (q,env)=>match toD ls.ts env with
   | some d=>gdL q (some (g (.go d)))
   | none=>none
  | none=>none
 | .exit i=>K Z (fun x=>g (.out x)) (.exit i) S
 | .ret=>K Z (fun x=>g (.out x)) .ret S
def seqK {X:Type} (R:St→KT X→(Y:Type)→(X→Y)→Option Y) (K:KT X):KT X:=fun Y f e S=>match e with
 | .normal=>R S K Y f
 | .exit i=>K Y f (.exit i) S
 | .ret=>K Y f .ret S
def blkK {X:Type} (id:Nat) (K:KT X):KT X:=fun Y f e S=>match e with
 | .normal=>K Y f .normal S
 | .exit i=>match Nat.beq i id with
  | true=>K Y f .normal S
  | false=>K Y f (.exit i) S
 | .ret=>K Y f .ret S
def runO (sp:Spec) (L:List LSh):AC→{X:Type}→St→KT X→(Y:Type)→(X→Y)→Option Y
 | .skip,_,S,K,Y,f=>K Y f .normal S
 | .reg m ops ed,_,S,K,Y,f=>match runL sp S.H.length 0 ops ⟨S.T,S.H++frees m⟩ with
  | r=>match ed with
   | none=>gdL r.ob (K Y f .normal r.S)
   | some ms=>match qjw ms [] r.inf with
    | true=>gdL r.ob (K Y f .normal r.S)
    | false=>match litR sp S.H.length ops ms ⟨S.T,S.H++frees m⟩ with
     | some r'=>gdL r'.ob (K Y f .normal r'.S)
     | none=>none
 | .seq a b,_,S,K,Y,f=>runO sp L a S (seqK (fun S' K Y f=>runO sp L b S' K Y f) K) Y f
 | .ite c x y,X,S,K,Y,f=>match peel (ev S.T c) with
  | (p,v)=>match asBool v with
   | some b=>gdL p (cond b (runO sp L x S K Y f) (runO sp L y S K Y f))
   | none=>match v with
    | .anyb pos P=>gdL p (Option.map f (eqO P (cond pos (runO sp L x S K X id) (runO sp L y S K X id)) (cond pos (runO sp L y S K X id) (runO sp L x S K X id))))
    | _=>none
 | .blk id a,_,S,K,Y,f=>runO sp L a S (blkK id K) Y f
 | .frz j,_,S,K,Y,f=>match frzS S j with
  | some (p,S')=>gdL p (K Y f .normal S')
  | none=>none
 | .exit id,_,S,K,Y,f=>K Y f (.exit id) S
 | .ret,_,S,K,Y,f=>K Y f .ret S
 | .loop m a,_,S,K,Y,f=>match L[m.headD 0]? with
  | some ls=>match qs4 ls.sl ls.bl ls.pin S with
   | some (p,env0)=>match toD ls.ts env0 with
    | some d0=>gdL p (qb0 (fun d=>runO sp L a (qjy (asg L a++qc2 ls.sl) ls.sl ls.bl ls.pin S (qbc ls.ts d)) (qkf ls K) (Lp (Dens ls.ts) Y) (Lp.map f)) d0)
    | none=>none
   | none=>none
  | none=>none
section
variable {sp:Spec} {L:List LSh}
def NatK {X:Type} (K:KT X):Prop:=∀ (Y:Type) (f:X→Y) e S,K Y f e S=(K X id e S).map f
theorem qmx {X:Type} {ls:LSh} {K:KT X} (hK:NatK K):NatK (qkf ls K):=fun Z g e S=>by
 cases e with
 | normal =>
  simp only [qkf];split
  ·split
   ·rw [qd4];rfl
   ·rfl
  ·rfl
 | exit i =>
  simp only [qkf];rw [hK Z,hK (Lp (Dens ls.ts) X),Option.map_map];rfl
 | ret =>
  simp only [qkf];rw [hK Z,hK (Lp (Dens ls.ts) X),Option.map_map];rfl
theorem qxb {X:Type} {id:Nat} {K:KT X} (hK:NatK K):NatK (blkK id K):=fun Z g e S=>by
 cases e with
 | normal=>exact hK _ _ _ _
 | exit i =>
  simp only [blkK];split<;>exact hK _ _ _ _
 | ret=>exact hK _ _ _ _
theorem qet:∀ {ac:AC} {X:Type} {K:KT X} (hK:NatK K) {S:St} {Y:Type} {f:X→Y},runO sp L ac S K Y f=(runO sp L ac S K X id).map f
 | .skip,X,K,hK,S,Y,f=>by simp only [runO];exact hK _ _ _ _
 | .frz j,X,K,hK,S,Y,f=>by
  simp only [runO];split
  ·rw [qd4,hK]
  ·rfl
 | .reg m ops ed,X,K,hK,S,Y,f=>by
  cases ed with
  | none=>simp only [runO];rw [qd4,hK]
  | some ms =>
   simp only [runO];split
   ·rw [qd4,hK]
   ·split
    ·rw [qd4,hK]
    ·rfl
 | .seq a b,X,K,hK,S,Y,f=>by
  simp only [runO];refine qet (fun Y f e S'=>?_)
  cases e with
  | normal=>exact qet hK
  | exit i=>exact hK _ _ _ _
  | ret=>exact hK _ _ _ _
 | .ite c x y,X,K,hK,S,Y,f=>by
  simp only [runO];split
  ·rename_i b hb;rw [qd4];congr 1;cases b
   ·exact qet hK
   ·exact qet hK
  ·split
   ·rw [qd4,Option.map_map];rfl
   ·rfl
 | .blk id a,X,K,hK,S,Y,f=>by
  simp only [runO];exact qet (qxb hK)
 | .exit i,X,K,hK,S,Y,f=>by simp only [runO];exact hK _ _ _ _
 | .ret,X,K,hK,S,Y,f=>by simp only [runO];exact hK _ _ _ _
 | .loop m a,X,K,hK,S,Y,f=>by
  simp only [runO];split
  ·rename_i ls hls;split
   ·split
    ·rw [qd4,← qyx];congr 2;funext d;rw [qet (qmx hK) (f:=Lp.map f),qet (qmx hK) (f:=Lp.map id)];rw [Option.map_map];congr 1;funext r;cases r<;>rfl
    ·rfl
   ·rfl
  ·rfl
def LeK {X:Type} (K K':KT X):Prop:=∀ (Y:Type) (f:X→Y) e S y,K Y f e S=some y→K' Y f e S=some y
theorem q48 {X:Type} {ls:LSh} {K K':KT X} (h:LeK K K'):LeK (qkf ls K) (qkf ls K'):=fun Y f e S y hy=>by
 cases e with
 | normal=>exact hy
 | exit i=>exact h _ _ _ _ _ hy
 | ret=>exact h _ _ _ _ _ hy
theorem q84 {X:Type} {i:Nat} {K K':KT X} (h:LeK K K'):LeK (blkK i K) (blkK i K'):=fun Y f e S y hy=>by
 cases e with
 | normal=>exact h _ _ _ _ _ hy
 | exit j =>
  simp only [blkK] at hy ⊢;split at hy<;>exact h _ _ _ _ _ hy
 | ret=>exact h _ _ _ _ _ hy
theorem qbm:∀ {ac:AC} {X:Type} {K K':KT X} (h:LeK K K') {S:St} {Y:Type} {f:X→Y} {y:Y},runO sp L ac S K Y f=some y→runO sp L ac S K' Y f=some y
 | .skip,X,K,K',h,S,Y,f,y,hr=>h _ _ _ _ _ hr
 | .frz j,X,K,K',h,S,Y,f,y,hr=>by
  simp only [runO] at hr ⊢;split at hr
  ·rw [qbl] at hr ⊢;exact ⟨hr.1,h _ _ _ _ _ hr.2⟩
  ·cases hr
 | .reg m ops ed,X,K,K',h,S,Y,f,y,hr=>by
  cases ed with
  | none =>
   simp only [runO,qbl] at hr ⊢;exact ⟨hr.1,h _ _ _ _ _ hr.2⟩
  | some ms =>
   simp only [runO] at hr ⊢;split at hr
   ·rw [qbl] at hr ⊢;exact ⟨hr.1,h _ _ _ _ _ hr.2⟩
   ·split at hr
    ·rw [qbl] at hr ⊢;exact ⟨hr.1,h _ _ _ _ _ hr.2⟩
    ·cases hr
 | .seq a b,X,K,K',h,S,Y,f,y,hr=>by
  simp only [runO] at hr ⊢;refine qbm (fun Y f e S' y hy=>?_) hr
  cases e with
  | normal=>exact qbm h hy
  | exit i=>exact h _ _ _ _ _ hy
  | ret=>exact h _ _ _ _ _ hy
 | .ite c x z,X,K,K',h,S,Y,f,y,hr=>by
  simp only [runO] at hr ⊢;split at hr
  ·rename_i b hb;rw [qbl] at hr ⊢;refine ⟨hr.1,?_⟩;cases b
   ·exact qbm h hr.2
   ·exact qbm h hr.2
  ·split at hr
   ·rename_i pos P hv;rw [qbl,Option.map_eq_some_iff] at hr ⊢;obtain ⟨hp,r,hr,rfl⟩:=hr;rw [qh4] at hr;refine ⟨hp,r,qh4.2 ?_,rfl⟩;cases pos
    ·exact ⟨qbm h hr.1,fun hP=>qbm h (hr.2 hP)⟩
    ·exact ⟨qbm h hr.1,fun hP=>qbm h (hr.2 hP)⟩
   ·cases hr
 | .blk id a,X,K,K',h,S,Y,f,y,hr=>by
  simp only [runO] at hr ⊢;exact qbm (q84 h) hr
 | .exit i,X,K,K',h,S,Y,f,y,hr=>h _ _ _ _ _ hr
 | .ret,X,K,K',h,S,Y,f,y,hr=>h _ _ _ _ _ hr
 | .loop m a,X,K,K',h,S,Y,f,y,hr=>by
  simp only [runO] at hr ⊢;split at hr
  ·split at hr
   ·split at hr
    ·rw [qbl] at hr ⊢;exact ⟨hr.1,qm8 (fun d r hd=>qbm (q48 h) hd) hr.2⟩
    ·cases hr
   ·cases hr
  ·cases hr
structure Agr (l:List Nat) (S S':St):Prop where
 len:S'.T.length=S.T.length
 get:∀ n,n∉l→S'.T[n]?=S.T[n]?
theorem Agr.refl (l:List Nat) (S:St):Agr l S S:=⟨rfl,fun _ _=>rfl⟩
theorem Agr.trans {l:List Nat} {S S' S'':St} (h:Agr l S S') (h':Agr l S' S''):Agr l S S'':=⟨h'.len.trans h.len,fun n hn=>(h'.get n hn).trans (h.get n hn)⟩
theorem Agr.mono {l l':List Nat} {S S':St} (h:Agr l S S') (hl:∀ n∈l,n∈l'):Agr l' S S':=⟨h.len,fun n hn=>h.get n fun hm=>hn (hl n hm)⟩
theorem q3b {o:AOp}:(qcy o).dst=o.dst:=by
 unfold qcy;split<;>rfl
theorem qph:∀ {l:List AOp},qim (l.map qcy)=qim l
 | []=>rfl
 | o::l=>by simp only [wbh,qim,q3b,qph (l:=l)]
theorem qrm {base:Nat}:∀ {l:List AOp} {i:Nat} {S:St},Agr (qim l) S (runL sp base i l S).S
 | [],i,S=>Agr.refl _ _
 | o::l,i,S=>by
  rw [qe7];have ih:=qrm (base:=base) (l:=l) (i:=i+1) (S:=S.step o.dst (geff sp base S.T S.H o));have h0:Agr (qim (o::l)) S (S.step o.dst (geff sp base S.T S.H o)):=by
   refine ⟨qm4,fun n hn=>?_⟩
   simp only [St.step,qrx];rw [if_neg];intro hd;apply hn;simp only [qim,hd];exact waz ..
  refine h0.trans (ih.mono fun n hn=>?_)
  simp only [qim];split
  ·exact wan _ hn
  ·exact hn
theorem qnc {nm lens:List Nat}:∀ {sl:List (Nat×TV)} {env T:List AV} {n:Nat},n∉qc2 sl→(qso nm lens sl env T)[n]?=T[n]?
 | [],_,_,_,_=>rfl
 | (m,tv)::sl,env,T,n,h=>by
  simp only [qc2,List.mem_cons,not_or] at h;simp only [qso];rw [qnc h.2,wai (Ne.symm h.1)]
theorem qw2 {l:List Nat} {sl:List (Nat×TV)} {bl:List TB} {k:Nat} {S:St} {env:List AV}:Agr (l++qc2 sl) S (qjy (l++qc2 sl) sl bl k S env):=by
 refine ⟨by simp only [qjy,q2h];rw [qhc,qgn],fun n hn=>?_⟩
 simp only [qjy,q2h];rw [qnc (fun h=>hn (wbo _ h)),qlf,if_neg hn]
def agrK {X:Type} (l:List Nat) (S:St) (K:KT X):KT X:=fun Y f e S'=>gd (Agr l S S') (K Y f e S')
theorem q5z {S S':St} {j:Nat} {p:List Prop} (h:frzS S j=some (p,S')):Agr [j] S S':=by
 unfold frzS at h;split at h
 ·split at h
  ·split at h
   ·cases h;exact ⟨by simp,fun n hn=>by
     have:j≠n:=fun e=>hn (by simp [e])
     simp [wai this]⟩
   ·cases h
  ·cases h
 ·cases h
theorem qd1:∀ {ac:AC} {X:Type} {K:KT X} {S:St} {Y:Type} {f:X→Y} {y:Y},runO sp L ac S K Y f=some y→runO sp L ac S (agrK (asg L ac) S K) Y f=some y
 | .skip,X,K,S,Y,f,y,hr=>qbu.2 ⟨Agr.refl _ _,hr⟩
 | .frz j,X,K,S,Y,f,y,hr=>by
  simp only [runO] at hr ⊢;split at hr
  ·rename_i p S' e;rw [qbl] at hr ⊢;exact ⟨hr.1,qbu.2 ⟨q5z e,hr.2⟩⟩
  ·cases hr
 | .reg m ops ed,X,K,S,Y,f,y,hr=>by
  have hag:Agr (asg L (.reg m ops ed)) S (runL sp S.H.length 0 ops ⟨S.T,S.H++frees m⟩).S:=by
   have:=qrm (sp:=sp) (base:=S.H.length) (l:=ops) (i:=0) (S:=⟨S.T,S.H++frees m⟩);exact ⟨this.len,this.get⟩
  cases ed with
  | none =>
   simp only [runO,qbl] at hr ⊢;exact ⟨hr.1,qbu.2 ⟨hag,hr.2⟩⟩
  | some ms =>
   simp only [runO] at hr ⊢;split at hr
   ·rw [qbl] at hr ⊢;exact ⟨hr.1,qbu.2 ⟨hag,hr.2⟩⟩
   ·split at hr
    ·rename_i r' hlit;rw [qbl] at hr ⊢;refine ⟨hr.1,qbu.2 ⟨?_,hr.2⟩⟩;obtain ⟨d0,q,k,v,os,us,_,_,_,_,_,_,rfl⟩:=qsr hlit;have:=qrm (sp:=sp) (base:=S.H.length) (l:=ops.map qcy) (i:=0) (S:=⟨S.T,S.H++frees m⟩);rw [qph] at this;exact ⟨this.len,this.get⟩
    ·cases hr
 | .seq a b,X,K,S,Y,f,y,hr=>by
  simp only [runO] at hr ⊢;refine qbm (fun Y f e S' y hy=>?_) (qd1 hr)
  obtain ⟨hag,hy⟩:=qbu.1 hy
  cases e with
  | normal =>
   simp only [seqK] at hy ⊢;refine qbm (fun Y f e' S'' y he'=>?_) (qd1 hy)
   obtain ⟨h1,h2⟩:=qbu.1 he';exact qbu.2 ⟨(hag.mono fun n hn=>wbn _ hn).trans (h1.mono fun n hn=>wbo _ hn),h2⟩
  | exit i=>exact qbu.2 ⟨hag.mono fun n hn=>wbn _ hn,hy⟩
  | ret=>exact qbu.2 ⟨hag.mono fun n hn=>wbn _ hn,hy⟩
 | .ite c x z,X,K,S,Y,f,y,hr=>by
  simp only [runO] at hr ⊢;have le1:LeK (agrK (asg L x) S K) (agrK (asg L (.ite c x z)) S K):=fun Y f e S' y h=>by
   obtain ⟨h1,h2⟩:=qbu.1 h;exact qbu.2 ⟨h1.mono fun n hn=>wbn _ hn,h2⟩
  have le2:LeK (agrK (asg L z) S K) (agrK (asg L (.ite c x z)) S K):=fun Y f e S' y h=>by
   obtain ⟨h1,h2⟩:=qbu.1 h;exact qbu.2 ⟨h1.mono fun n hn=>wbo _ hn,h2⟩
  split at hr
  ·rename_i b hb;rw [qbl] at hr ⊢;refine ⟨hr.1,?_⟩;cases b
   ·exact qbm le2 (qd1 hr.2)
   ·exact qbm le1 (qd1 hr.2)
  ·split at hr
   ·rename_i pos P hv;rw [qbl,Option.map_eq_some_iff] at hr ⊢;obtain ⟨hp,r,hr,rfl⟩:=hr;rw [qh4] at hr;refine ⟨hp,r,qh4.2 ?_,rfl⟩;cases pos
    ·exact ⟨qbm le1 (qd1 hr.1),fun hP=>qbm le2 (qd1 (hr.2 hP))⟩
    ·exact ⟨qbm le2 (qd1 hr.1),fun hP=>qbm le1 (qd1 (hr.2 hP))⟩
   ·cases hr
 | .blk id a,X,K,S,Y,f,y,hr=>by
  simp only [runO] at hr ⊢;refine qbm (fun Y f e S' y hy=>?_) (qd1 hr)
  obtain ⟨hag,hy⟩:=qbu.1 hy
  cases e with
  | normal=>exact qbu.2 ⟨hag,hy⟩
  | exit i =>
   simp only [blkK] at hy ⊢;split at hy<;>exact qbu.2 ⟨hag,hy⟩
  | ret=>exact qbu.2 ⟨hag,hy⟩
 | .exit i,X,K,S,Y,f,y,hr=>qbu.2 ⟨Agr.refl _ _,hr⟩
 | .ret,X,K,S,Y,f,y,hr=>qbu.2 ⟨Agr.refl _ _,hr⟩
 | .loop m a,X,K,S,Y,f,y,hr=>by
  simp only [runO] at hr ⊢;split at hr
  ·rename_i ls hls;split at hr
   ·split at hr
    ·rw [qbl] at hr ⊢;refine ⟨hr.1,qm8 (fun d r hd=>?_) hr.2⟩
     refine qbm (fun Y f e S' y hy=>?_) (qd1 hd)
     obtain ⟨hag,hy⟩:=qbu.1 hy;have hag':Agr (asg L (.loop m a)) S S':=by
      simp only [asg,hls];exact qw2.trans (hag.mono fun n hn=>wbn _ hn)
     cases e with
     | normal=>exact hy
     | exit i=>exact qbu.2 ⟨hag',hy⟩
     | ret=>exact qbu.2 ⟨hag',hy⟩
    ·cases hr
   ·cases hr
  ·cases hr
end
theorem q4v {P:Program} {Q:Exit→Act→World→Prop} {a:Act} {w:World} {c:Code} (I:Nat→Act→World→Prop) (h₀:∃ n,I n a w)
  (round:∀ n a w,I n a w→c.wp P (Exit.then (fun a' w'=>∃ m,m<n∧I m a' w') Q) a w):(Code.loop c).wp P Q a w:=by
 intro b k cs;have key:∀ n a w,I n a w →
   ∃ e a' w',Q e a' w'∧Arrives P (lone (b.at a (.code c::.inLoop c::k)) cs w) b k cs e a' w':=by
  intro n
  induction n using Nat.strongRecOn with
  | _ n ih =>
   intro a w hI;obtain ⟨e,a₁,w₁,hq,harr⟩:=round n a w hI b (.inLoop c::k) cs
   cases e with
   | normal =>
    obtain ⟨m,hlt,hI₁⟩:=hq;obtain ⟨e₂,a₂,w₂,hq₂,harr₂⟩:=ih m hlt a₁ w₁ hI₁;exact ⟨e₂,a₂,w₂,hq₂,.of_steps (Steps.trans harr (.one step_inLoop)) harr₂⟩
   | exit id=>exact ⟨_,a₁,w₁,hq,.pass (x:=.inLoop c) rfl (fun _ _=>.inl (by simp)) harr⟩
   | goto l=>exact ⟨_,a₁,w₁,hq,.pass (x:=.inLoop c) rfl (fun _ _=>.inl (by simp)) harr⟩
   | ret=>exact ⟨_,a₁,w₁,hq,.pass (x:=.inLoop c) rfl (fun _ _=>.inl (by simp)) harr⟩
   | panic ch=>exact ⟨_,a₁,w₁,hq,.pass (x:=.inLoop c) rfl (fun _ _=>.inl (by simp)) harr⟩
   | outgrown=>exact ⟨_,a₁,w₁,hq,.pass (x:=.inLoop c) rfl (fun _ _=>.inl (by simp)) harr⟩
 obtain ⟨n,h₀⟩:=h₀;obtain ⟨e,a',w',hq,harr⟩:=key n a w h₀;exact ⟨e,a',w',hq,.of_steps (.one step_loop) harr⟩
def QK (Γ0:Cx) (H0:List Hs) (w0:World) (K:Ex→St→Prop):Exit→Act→World→Prop:=fun e a w =>
 ∃ Γ S,Emb Γ S a w∧Ext Γ0 H0 w0 Γ S.H w∧(match e with
  | .normal=>K .normal S
  | .exit i=>K (.exit i) S
  | .ret=>K .ret S
  | _=>False)
theorem qsx:∀ {m b:Nat} {x:Hs},(frees m)[b]?=some x→x=.free
 | 0,_,_,h=>by simp [frees] at h
 | m+1,0,x,h=>by simp only [frees,wa7,wa0] at h;exact h.symm
 | m+1,b+1,x,h=>by simp only [frees,wa5] at h;exact qsx h
theorem qff {H:List Hs} {m b:Nat} {x:Hs} (h:(H++frees m)[b]?=some x):H[b]?=some x∨x=.free:=by
 rcases Nat.lt_or_ge b H.length with hlt | hge
 ·rw [wag hlt] at h;exact .inl h
 ·rw [wah hge] at h;exact .inr (qsx h)
theorem q3h {H:List Hs} {m b:Nat} {x:Hs} (h:H[b]?=some x):(H++frees m)[b]?=some x:=by
 rw [wag (qbi h)];exact h
section
variable {P:Program} {sp:Spec} {L:List LSh} {Γ:Cx} {S:St} {a:Act} {w:World}
theorem qkn {H:List Hs} {m b:Nat} (h:Live (H++frees m) b):Live H b:=by
 obtain ⟨B,hB⟩:=h
 rcases qff hB with h | h
 ·exact ⟨B,h⟩
 ·cases h
theorem Emb.frees (em:Emb Γ S a w) (m:Nat):Emb Γ ⟨S.T,S.H++frees m⟩ a w∧Ext Γ S.H w Γ (S.H++Ab.frees m) w:=by
 refine ⟨⟨em.defers,em.size,em.tmp,⟨fun b B hB=>?_,fun b b' h h'=>em.heap.inj b b' (qkn h) (qkn h'),fun b h=>em.heap.imm b (qkn h),em.heap.old,fun b=>?_,em.heap.rows.sub (fun b B h=>(qff h).elim id fun h=>nomatch h) (fun n h=>.inl h) (wae _),
  em.heap.vw_keep (fun _ h=>⟨h,rfl,rfl⟩) (fun m b i f h=>(qff h).elim id fun h=>nomatch h) fun b t rows ho _ h=>⟨rfl,t,rows,ho,(qff h).elim id (fun h=>nomatch h),wae _⟩⟩⟩,?_⟩
 ·rcases qff hB with h | h
  ·exact em.heap.blk b B h
  ·cases h
 ·rw [em.heap.al b];constructor
  ·rintro ⟨x,hx,hn⟩;exact ⟨x,q3h hx,hn⟩
  ·rintro ⟨x,hx,hn⟩
   rcases qff hx with h | h
   ·exact ⟨x,h,hn⟩
   ·exact absurd h hn
 ·exact ⟨fun _ _ _=>rfl,wae _,rfl,rfl,fun n hw=>.inl (hw.sub fun b B h=>(qff h).elim id fun h=>nomatch h),fun _ h=>.inl h,fun _ h=>h,fun _ h=>⟨h,rfl,rfl⟩⟩
theorem Emb.drawn (em:Emb Γ S a w):Emb Γ S a { w with drawn:=w.drawn+1 }∧Ext Γ S.H w Γ S.H { w with drawn:=w.drawn+1 }:=by
 have hx:Ext Γ S.H w Γ S.H { w with drawn:=w.drawn+1 }:=⟨fun _ _ _=>rfl,wae _,rfl,rfl,fun n h=>.inl h,fun _ h=>.inl h,fun _ h=>h,fun _ h=>⟨h,rfl,rfl⟩⟩
 have hR:∀ b B,S.H[b]?=some (.live B)→RepB { w with drawn:=w.drawn+1 } Γ b B:=fun b B hB =>
  RepB.mono (w:=w) (w':={ w with drawn:=w.drawn+1 }) (fun _ h=>h) (fun _ _=>rfl) (fun _ h=>⟨h,rfl,rfl⟩) (em.heap.alive ⟨B,hB⟩) (fun _=>rfl) (fun _ _ _ _=>⟨rfl,fun _ _=>rfl⟩) (em.heap.blk b B hB)
 refine ⟨⟨em.defers,em.size,fun i x hx'=>?_,⟨fun b B hB=>hR b B hB,em.heap.inj,em.heap.imm,em.heap.old,em.heap.al,em.heap.rows.of (fun b h=>.inl ⟨h,rfl⟩) (fun b hb hk=>.inl ⟨b,hb,hk,rfl⟩) (fun n hn=>.inl hn) (wae _),em.heap.vw⟩⟩,hx⟩
 obtain ⟨v,h1,h2⟩:=em.tmp i x hx';exact ⟨v,h1,Rp.mono (w:=w) (w':={ w with drawn:=w.drawn+1 }) (fun _ h=>h) (fun _ _=>rfl) (fun _ h=>⟨h,rfl,rfl⟩) x _ h2⟩
end
section
variable {P:Program} {sp:Spec} {L:List LSh}
theorem QK.mono {Γ0 Γ1:Cx} {H0 H1:List Hs} {w0 w1:World} {K K':Ex→St→Prop} (hx:Ext Γ0 H0 w0 Γ1 H1 w1) (hk:∀ e S,K e S→K' e S) {e:Exit} {a:Act} {w:World} (h:QK Γ1 H1 w1 K e a w):QK Γ0 H0 w0 K' e a w:=by
 obtain ⟨Γ,S,em,hx',h⟩:=h;refine ⟨Γ,S,em,hx.trans hx',?_⟩;cases e<;>first | exact hk _ _ h | exact h
theorem qm1 {n k:Nat}:(Array.replicate n false).getD k false=false:=by
 rw [Array.getD_eq_getD_getElem?,Array.getElem?_replicate];split<;>rfl
theorem qsk {n:Nat}:(Array.replicate n false).toList.countP (!·)=n:=by
 rw [Array.toList_replicate,List.countP_replicate];rfl
def isK {X:Type} (K:KT X) (x:X):Ex→St→Prop:=fun e S=>K X id e S=some x
theorem zdn {X Y:Type} {K:KT X} (hK:NatK K) {f:X→Y} {e:Ex} {S:St} {y:Y} (h:K Y f e S=some y):∃ x,f x=y∧isK K x e S:=by
 rw [hK] at h;obtain ⟨x,h1,h2⟩:=Option.map_eq_some_iff.1 h;exact ⟨x,h2,h1⟩
theorem qz6 {Γ:Cx} {S S':St} {a:Act} {w:World} {j:Nat} {p:List Prop} (em:Emb Γ S a w) (h:frzS S j=some (p,S')) (hp:allP p):∃ Γ',Emb Γ' S' a w∧Ext Γ S.H w Γ' S'.H w:=by
 unfold frzS at h;split at h
 case h_2=>cases h
 rename_i b s i len c hx;split at h
 case h_2=>cases h
 rename_i t xs opn hg;split at h
 case h_2=>cases h
 rename_i hs;have hs:=waj hs;cases h;have h1:=allP_one.1 hp;have hcl:qdg t t xs=some xs:=by
  unfold qdg;exact qct
 have hfe:frzE S.H (.slice t) (.sl b s i len c)=⟨[i+len≤xs.length],.val (.slice (.slice t)) [(xs.drop i).take len],[(b,.dead)],[b]⟩:=by
  unfold frzE;simp only [hg,hcl,if_pos hs]
 obtain ⟨t2,b2,s2,i2,len2,c2,ys,B,e1,e2,hb,he,hrep⟩:=qwl em.heap (te:=.slice t) (x:=.sl b s i len c) (by rw [hfe];exact allP_one.2 h1)
 cases e1;cases e2;rw [hfe] at he;have hys:(xs.drop i).take len=(ys.drop i).take len:=by
  have:=congrArg Ef.v he;injection this with _ hv
  have hv':([(xs.drop i).take len]:List (List (Den t)))=[(ys.drop i).take len]:=hv;exact (List.cons.inj hv').1
 obtain ⟨ext1,emb1⟩:=q0a em.heap hb;refine ⟨{ Γ with I:=fun n=>Γ.I n∨(Γ.κ b≠0∧n=Γ.ν b)∨(Nest S.H b∧Γ.O b n) },⟨em.defers,by rw [em.size];simp,fun m x hm=>?_,emb1⟩,ext1⟩
 simp only [wax] at hm;split at hm
 ·rename_i hjm;subst hjm;split at hm
  ·rename_i hlt;cases hm;obtain ⟨v,hv,hr⟩:=em.tmp j _ (by rw [wab hlt])
   have hgy:S.T.getD j .undef=S.T[j]:=by rw [waa,wab hlt];rfl
   rw [← hgy,hx] at hr;rw [hys];exact ⟨v,hv,Ra_val.2 (hrep v hr)⟩
  ·cases hm
 ·obtain ⟨v,hv,hr⟩:=em.tmp m x hm;exact ⟨v,hv,Ra.ext em.heap ext1 hr⟩
theorem q1u (hsp:SpecOk P sp) (hfr:qc8 sp) (hm:P.follows .mixedOrders=true) {ms:List Nat} {rid:Nat} {ops:Array Oper} {draw:Bool} {l:List AOp} {m:Nat} (hl:cReg P ms ops ops.toList 0=some (l,m)) :
  ∀ (js:List Nat) {X:Type} (K:KT X) (hK:NatK K) (x:X) (Γ:Cx) (S:St) (a:Act) (w:World),Emb Γ S a w→runO sp L (qsz (.reg m l (if draw then some (qc5 ops.toList []) else none)) js) S K X id=some x→(Code.region rid ops draw).wp P (QK Γ S.H w (isK K x)) a w:=by
 intro js
 induction js with
 | nil =>
  intro X K hK x Γ S a w em hr;simp only [qsz] at hr;obtain ⟨em1,hx1⟩:=em.frees m
  cases draw with
  | false =>
   simp only [runO,wa3,if_false] at hr;obtain ⟨hob,hk⟩:=qbl.1 hr;refine wp_region ?_;rw [List.range_eq_range'];refine qtz hsp S.H.length ops.size 0 0 m l (by simp) (by simpa using hl) 0 Γ _ a w em1 hob fun Γ' a' w' hx em'=>?_
   exact ⟨Γ',_,em',hx1.trans hx,hk⟩
  | true =>
   simp only [runO,if_true] at hr;split at hr
   ·rename_i hchk;obtain ⟨hob,hk⟩:=qbl.1 hr;refine wp_region_any hm ?_;obtain ⟨em2,hx2⟩:=em1.drawn;have hnone:appS (recL sp S.H.length l ⟨S.T,S.H++frees m⟩) (fun k=>(Array.replicate ops.size false).getD k false) ⟨S.T,S.H++frees m⟩=⟨S.T,S.H++frees m⟩:=by
     refine qgp _ _ _ fun k e _ hl=>?_
     rw [qm1] at hl;cases hl
    refine q2z (Γ0:=Γ) (w0:={ w with drawn:=w.drawn+1 }) hsp hfr S.H.length hl hob hchk (fun Γ' a' w' hx em'=>⟨Γ',_,em',(hx1.trans hx2).trans hx,hk⟩) ops.size (Array.replicate ops.size false) Γ a _ (by simp) qsk (fun j k hj _=>by rw [qm1] at hj;cases hj) ?_ ?_
    ·rw [hnone];exact em2
    ·rw [hnone];exact Ext.refl _ _ _
   ·split at hr
    ·rename_i r' hlit;obtain ⟨hob,hk⟩:=qbl.1 hr;refine wp_region_any hm ?_;obtain ⟨em2,hx2⟩:=em1.drawn;exact q1e (Γ0:=Γ) (w0:={ w with drawn:=w.drawn+1 }) hsp hfr S.H.length hl hlit hob (fun Γ' a' w' hx em'=>⟨Γ',_,em',(hx1.trans hx2).trans hx,hk⟩) ops.size (Array.replicate ops.size false) Γ a _ (by simp) qsk (fun j=>qm1) em2 (Ext.refl _ _ _)
    ·cases hr
 | cons j js ih =>
  intro X K hK x Γ S a w em hr;simp only [qsz,runO] at hr;split at hr
  ·rename_i p S' e;obtain ⟨hp,hk⟩:=qbl.1 hr;obtain ⟨Γ1,em1,hx1⟩:=qz6 em e hp;exact wp_mono (ih K hK x Γ1 S' a w em1 hk) fun e a w h=>QK.mono hx1 (fun _ _ h=>h) h
  ·cases hr
theorem qo5 (hsp:SpecOk P sp) (hfr:qc8 sp) (hm:P.follows .mixedOrders=true) {ms:List Nat}:∀ (code:Code) (lm:List (List Nat)) (ac:AC) (lm':List (List Nat)),qfk P ms code lm=some (ac,lm') →
  ∀ {X:Type} (K:KT X) (hK:NatK K) (x:X) (Γ:Cx) (S:St) (a:Act) (w:World),Emb Γ S a w→runO sp L ac S K X id=some x→code.wp P (QK Γ S.H w (isK K x)) a w:=by
 intro code
 induction code with
 | skip =>
  intro lm ac lm' hc X K hK x Γ S a w em hr;simp only [qfk,wa0,wa2] at hc;obtain ⟨rfl,_⟩:=hc;exact wp_skip ⟨Γ,S,em,Ext.refl _ _ _,hr⟩
 | label l =>
  intro lm ac lm' hc X K hK x Γ S a w em hr;simp only [qfk,wa0,wa2] at hc;obtain ⟨rfl,_⟩:=hc;exact wp_label ⟨Γ,S,em,Ext.refl _ _ _,hr⟩
 | scope c ih =>
  intro lm ac lm' hc X K hK x Γ S a w em hr;simp only [qfk] at hc;refine wp_scope_straight (wp_mono (ih _ _ _ hc K hK x Γ S a w em hr) fun e a' w' hq=>?_)
  obtain ⟨Γ',S',em',hx',hk⟩:=hq
  cases e with
  | normal=>exact ⟨Γ',S',em',hx',hk⟩
  | exit i=>exact ⟨Γ',S',em',hx',hk⟩
  | ret=>exact ⟨Γ',S',em',hx',hk⟩
  | goto l=>exact hk.elim
  | panic c=>exact hk.elim
  | outgrown=>exact hk.elim
 | region id ops draw =>
  intro lm ac lm' hc X K hK x Γ S a w em hr;simp only [qfk] at hc;split at hc
  ·rename_i l m hl;cases hc;exact q1u hsp hfr hm hl _ K hK x Γ S a w em hr
  ·cases hc
 | seq c1 c2 ihx ihy =>
  intro lm ac lm' hc X K hK x Γ S a w em hr;simp only [qfk] at hc;split at hc
  ·rename_i ax lm1 h1;split at hc
   ·rename_i ay lm2 h2;cases hc;simp only [runO] at hr;have hK2:NatK (seqK (fun S' K Y f=>runO sp L ay S' K Y f) K):=fun Y f e S'=>by
     cases e with
     | normal=>exact qet hK
     | exit i=>exact hK _ _ _ _
     | ret=>exact hK _ _ _ _
    refine wp_seq (wp_mono (ihx _ _ _ h1 _ hK2 x Γ S a w em hr) fun e a' w' hq=>?_)
    obtain ⟨Γ',S',em',hx',hk⟩:=hq
    cases e with
    | normal=>exact wp_mono (ihy _ _ _ h2 K hK x Γ' S' a' w' em' hk) fun e a w h=>QK.mono hx' (fun _ _ h=>h) h
    | exit i=>exact ⟨Γ',S',em',hx',hk⟩
    | ret=>exact ⟨Γ',S',em',hx',hk⟩
    | goto l=>exact hk.elim
    | panic c=>exact hk.elim
    | outgrown=>exact hk.elim
   ·cases hc
  ·cases hc
 | cond c c1 c2 ihx ihy =>
  intro lm ac lm' hc X K hK x Γ S a w em hr;simp only [qfk] at hc;split at hc
  ·rename_i c' ax lm1 h0 h1;split at hc
   ·rename_i ay lm2 h2;cases hc;simp only [runO] at hr;split at hr
    ·rename_i b hb;obtain ⟨hp,hx⟩:=qbl.1 hr;have r:=qaf (qai em h0) hp;have hv:=qhn hb r;exact wp_cond_split hv (fun h=>ihx _ _ _ h1 K hK x Γ S a w em (by rw [h] at hx;exact hx)) (fun h=>ihy _ _ _ h2 K hK x Γ S a w em (by rw [h] at hx;exact hx))
    ·split at hr
     ·rename_i pos P' hb;obtain ⟨hp,hx⟩:=qbl.1 hr;have r:=qaf (qai em h0) hp;rw [hb] at r;simp only [Ra,Rp,wa1,and_true] at r;obtain ⟨b,hv,hP⟩:=r;obtain ⟨z,hz,rfl⟩:=Option.map_eq_some_iff.1 hx;rw [qh4] at hz;refine wp_cond_split hv (fun h=>ihx _ _ _ h1 K hK z Γ S a w em ?_) (fun h=>ihy _ _ _ h2 K hK z Γ S a w em ?_)
      ·cases pos
       ·exact hz.1
       ·exact hz.2 (hP h)
      ·cases pos
       ·exact hz.2 (hP h)
       ·exact hz.1
     ·cases hr
   ·cases hc
  ·cases hc
 | block id c ih =>
  intro lm ac lm' hc X K hK x Γ S a w em hr;simp only [qfk] at hc;split at hc
  ·rename_i ax lm1 h1;cases hc;simp only [runO] at hr;refine wp_block (wp_mono (ih _ _ _ h1 _ (qxb hK) x Γ S a w em hr) fun e a' w' hq=>?_)
   obtain ⟨Γ',S',em',hx',hk⟩:=hq
   cases e with
   | normal=>exact ⟨Γ',S',em',hx',hk⟩
   | exit i =>
    simp only [isK,blkK] at hk;simp only [Exit.inBlock];split at hk
    ·rename_i hi;have hi:i=id:=by simpa using hi
     rw [if_pos hi];exact ⟨Γ',S',em',hx',hk⟩
    ·rename_i hi;have hi:¬ i=id:=fun h=>by subst h;rw [Nat.beq_refl] at hi;cases hi
     rw [if_neg hi];exact ⟨Γ',S',em',hx',hk⟩
   | ret=>exact ⟨Γ',S',em',hx',hk⟩
   | goto l=>exact hk.elim
   | panic c=>exact hk.elim
   | outgrown=>exact hk.elim
  ·cases hc
 | loop c ih =>
  intro lm ac lm' hc X K hK x Γ S a w em hr;simp only [qfk] at hc;split at hc
  ·rename_i ax lm1 h1;cases hc;simp only [runO] at hr;split at hr
   ·rename_i ls hls;split at hr
    ·rename_i p env0 hrd;split at hr
     ·rename_i d0 hd0;obtain ⟨hp,hw⟩:=qbl.1 hr;have he0:=q22 hd0 (qxc hrd);subst he0;have hpin0:=qzd hrd;obtain ⟨Γ1,em1,hx1⟩:=q6v (asg:=asg L ax++qc2 ls.sl) em em (Ext.refl _ _ _) rfl (fun _ _=>rfl) hpin0 hrd hp
      obtain ⟨n0,hn0⟩:=qcl.1 hw;refine q4v (fun n a' w'=>∃ Γ' d,qcv (fun d=>runO sp L ax (qjy (asg L ax++qc2 ls.sl) ls.sl ls.bl ls.pin S (qbc ls.ts d)) (qkf ls K) (Lp (Dens ls.ts) X) (Lp.map id)) n d=some x ∧
       Emb Γ' (qjy (asg L ax++qc2 ls.sl) ls.sl ls.bl ls.pin S (qbc ls.ts d)) a' w' ∧
       Ext Γ S.H w Γ' (qjy (asg L ax++qc2 ls.sl) ls.sl ls.bl ls.pin S (qbc ls.ts d)).H w') ⟨n0,Γ1,d0,hn0,em1,hx1⟩ ?_
      rintro n a' w' ⟨Γ',d,hn,em',hx'⟩
      cases n with
      | zero=>cases hn
      | succ n =>
       rw [qcv] at hn;have hnk:=qmx (ls:=ls) hK
       cases hst:runO sp L ax (qjy (asg L ax++qc2 ls.sl) ls.sl ls.bl ls.pin S (qbc ls.ts d)) (qkf ls K) (Lp (Dens ls.ts) X) (Lp.map id) with
       | none=>rw [hst] at hn;cases hn
       | some r =>
        rw [hst] at hn;have hst2:runO sp L ax (qjy (asg L ax++qc2 ls.sl) ls.sl ls.bl ls.pin S (qbc ls.ts d)) (qkf ls K) (Lp (Dens ls.ts) X) id=some r:=by
         rw [qet hnk] at hst;obtain ⟨r',hst',hr'⟩:=Option.map_eq_some_iff.1 hst;rw [Lp.map_id] at hr';subst hr';exact hst'
        have hb:=qd1 hst2;have hka:NatK (agrK (asg L ax) (qjy (asg L ax++qc2 ls.sl) ls.sl ls.bl ls.pin S (qbc ls.ts d)) (qkf ls K)):=fun Y f e S'=>by
         simp only [agrK];rw [q7k,hnk]
        refine wp_mono (ih _ _ _ h1 _ hka r Γ' _ a' w' em' hb) fun e a2 w2 hq=>?_
        obtain ⟨Γ2,S2,em2,hx2,hk⟩:=hq;have exitK:∀ ex,(∃ i,ex=.exit i∨ex=.ret)→agrK (asg L ax) (qjy (asg L ax++qc2 ls.sl) ls.sl ls.bl ls.pin S (qbc ls.ts d)) (qkf ls K) (Lp (Dens ls.ts) X) id ex S2=some r→isK K x ex S2:=fun ex hex hh=>by
         obtain ⟨_,hh⟩:=qbu.1 hh;have:K (Lp (Dens ls.ts) X) (fun x=>.out x) ex S2=some r:=by
          cases ex with
          | normal=>obtain ⟨_,h | h⟩:=hex<;>cases h
          | exit i=>exact hh
          | ret=>exact hh
         obtain ⟨x',e1,e2⟩:=zdn hK this;subst e1;simp only [wa0] at hn;rw [← hn];exact e2
        cases e with
        | normal =>
         obtain ⟨hag,hk⟩:=qbu.1 hk;simp only [qkf] at hk;split at hk
         ·rename_i q env' hrd';split at hk
          ·rename_i d' hd';obtain ⟨hq,hk⟩:=qbl.1 hk;simp only [id,wa0] at hk;subst hk;have he':=q22 hd' (qxc hrd');subst he';have hag':Agr (asg L ax++qc2 ls.sl) S S2:=qw2.trans (hag.mono fun n hn=>wbn _ hn)
           obtain ⟨Γ3,em3,hx3⟩:=q6v (asg:=asg L ax++qc2 ls.sl) em em2 (hx'.trans hx2) hag'.len hag'.get hpin0 hrd' hq;exact ⟨n,Nat.lt_succ_self n,Γ3,d',hn,em3,hx3⟩
          ·cases hk
         ·cases hk
        | exit i=>exact ⟨Γ2,S2,em2,hx'.trans hx2,exitK _ ⟨i,.inl rfl⟩ hk⟩
        | ret=>exact ⟨Γ2,S2,em2,hx'.trans hx2,exitK _ ⟨0,.inr rfl⟩ hk⟩
        | goto l=>exact hk.elim
        | panic c=>exact hk.elim
        | outgrown=>exact hk.elim
     ·cases hr
    ·cases hr
   ·cases hr
  ·cases hc
 | exit id =>
  intro lm ac lm' hc X K hK x Γ S a w em hr;simp only [qfk,wa0,wa2] at hc;obtain ⟨rfl,_⟩:=hc;exact wp_exit ⟨Γ,S,em,Ext.refl _ _ _,hr⟩
 | ret =>
  intro lm ac lm' hc X K hK x Γ S a w em hr;simp only [qfk,wa0,wa2] at hc;obtain ⟨rfl,_⟩:=hc;exact wp_ret ⟨Γ,S,em,Ext.refl _ _ _,hr⟩
 | _=>intro lm ac lm' hc;simp [qfk] at hc
end
def Cx.freeze (Γ:Cx) (H:List Hs):Cx:={ Γ with I:=fun n=>Γ.I n∨Wr Γ H n,A:=fun _=>False }
section
variable {w:World} {Γ:Cx} {H:List Hs}
theorem qia (e:EmbH Γ H w):EmbH (Γ.freeze H) [] w:=by
 refine ⟨fun b B h=>by simp at h,fun b b' h=>by obtain ⟨B,h⟩:=h;simp at h,fun b h=>by obtain ⟨B,h⟩:=h;simp at h,fun n hn=>?_,fun b=>?_,Rows.nil fun _=>qmj,fun m b i f h=>by simp at h⟩
 ·rcases hn with h | ⟨b,hb,hk,rfl⟩ | ⟨b,hb,hn⟩
  ·exact e.old n h
  ·exact e.lt hb hk
  ·exact e.rows.lt b n hb hn
 ·exact ⟨fun h=>h.elim,fun ⟨x,hx,_⟩=>by simp at hx⟩
structure BlkOk (Γ:Cx) (H:List Hs) (w:World):Prop where
 blk:∀ b B,H[b]?=some (.live B)→RepB w Γ b B
 vw:∀ m b i f,H[m]?=some (.view b i f)→VwOk Γ H m b i
theorem q2f:BlkOk Γ [] w:=⟨fun b B h=>by simp at h,fun m b i f h=>by simp at h⟩
theorem EmbH.blkOk (e:EmbH Γ H w):BlkOk Γ H w:=⟨e.blk,fun m b i f h=>(e.vw m b i f h).2⟩
def Jf (Γ:Cx) (H:List Hs):Nat→Prop:=fun n=>Γ.I n∨Wr Γ H n
theorem RepC.toJ {t:Ty} {x:Den t} {cs:List Value} (h:RepC w Γ.I t x cs):RepC w (Jf Γ H) t x cs:=RepC.mono (fun _ h=>.inl h) (fun _ _=>rfl) t x cs h
theorem qik {t t':Ty} {x:Den t'} {y:Den t} {v:Value} (hc:qbb t' t x=some y) (hr:Ra w Γ (.val t' x) v) (ht:isAgg t=false):RepC w (Jf Γ H) t y [v]:=by
 obtain ⟨e1,e2⟩:=qar hc;subst e1;subst e2;obtain ⟨cs,h1,h2⟩:=Ra_val.1 hr;have hl:=RepC.length _ _ _ h1;rw [RepC.one ht] at hl
 match cs,hl,h1,h2 with
 | [u],_,h1,h2 =>
  simp only [mkV,ht,wa3,if_false,List.headD_cons] at h2;subst h2;exact h1.toJ
theorem qfg {x:AV} {vs:List Value} (h:Fa w Γ [x] vs):∃ v,vs=[v]∧Ra w Γ x v:=by
 match vs,h with
 | [v],h=>exact ⟨v,rfl,h.1⟩
 | [],h=>exact h.elim
 | _::_::_,h=>exact h.2.elim
theorem q7h {b:Nat} {te:Ty} {xs:List (Den te)} {opn:Bool} (h:RepB w Γ b (.arr te xs opn)) {i:Nat} (hi:i<xs.length):Γ.κ b≠0:=by
 simp only [RepB] at h;omega
theorem qvs {b:Nat} {vs:List AV} (h:RepB w Γ b (.cells vs)):Γ.κ b≠0:=by
 simp only [RepB] at h;exact h.1
theorem q3n {b:Nat} (hb:Live H b) (hk:Γ.κ b≠0):Jf Γ H (Γ.ν b):=.inr (.inl ⟨b,hb,hk,rfl⟩)
theorem BlkOk.elem (em:BlkOk Γ H w) {b:Nat} {te:Ty} {xs:List (Den te)} {opn:Bool} (h:hres H b=some (.arr te xs opn)):ArrE w Γ b te xs∧∀ i,i<xs.length→Jf Γ H (Γ.ν b):=by
 unfold hres at h;split at h
 ·rename_i hb;have h:=Option.some.inj h;subst h;have hB:=em.blk _ _ hb;exact ⟨hB.arrE,fun i hi=>q3n ⟨_,hb⟩ (q7h hB hi)⟩
 ·rename_i n p f hb;split at h
  ·rename_i t rows ho hn;cases h;have hn:=qav hn;have hB:=em.blk _ _ hn
   by_cases hp:p<rows.length
   ·obtain ⟨h1,h2⟩:=em.vw _ _ _ _ hb _ _ _ hn hp;have hr:=(hB.nest_row hp).rep h1 h2;refine ⟨hr.arrE,fun i hi=>?_⟩
    have hk:=q7h hr hi;exact .inr (.inr ⟨n,⟨_,_,_,hn⟩,p,by rw [← h1];exact hk,(h2 hk).symm⟩)
   ·have:rows.getD p []=[]:=by rw [waa,wac (by omega),Option.getD_none]
    rw [this];exact ⟨fun i x hx=>by simp at hx,fun i hi=>by simp at hi⟩
  ·cases h
 ·cases h
theorem qoj (em:BlkOk Γ H w) {e:Ty} {b s:Nat} {ys:List (Den e)} (h:arrElems H e b s=some ys):s=sz e∧∀ (j:Nat) (x:Den e),ys[j]?=some x→∃ cs,RepC w (Jf Γ H) e x cs∧Jf Γ H (Γ.ν b)∧qa3 w (Γ.ν b) (j*sz e) cs:=by
 unfold arrElems at h;split at h
 ·rename_i te xs opn hg
  by_cases hs:s=sz te
  ·rw [if_pos hs] at h;obtain ⟨e1,e2⟩:=qb1 h;subst e1;subst e2;obtain ⟨h1,h2⟩:=em.elem hg;refine ⟨hs,fun j x hx=>?_⟩
   obtain ⟨cs,g1,g2⟩:=h1 j x hx;exact ⟨cs,g1.toJ,h2 j (List.getElem?_eq_some_iff.1 hx).1,g2⟩
  ·rw [if_neg hs] at h;cases h
 ·rename_i t rows ho hg;split at h
  ·by_cases hs:s=1
   ·rw [if_pos hs] at h;obtain ⟨e1,e2⟩:=qb1 h;subst e1;subst e2;have hb:H[b]?=some (.live (.nest t ys none)):=by
     unfold hres at hg;split at hg
     ·rename_i hb;have hg:=Option.some.inj hg;subst hg;exact hb
     ·split at hg<;>cases hg
     ·cases hg
    have hB:=em.blk _ _ hb;refine ⟨hs,fun j x hx=>?_⟩
    obtain ⟨v,m1,m2⟩:=qtv (I':=Jf Γ H) hB (fun _ h=>.inl h) (fun n hn=>.inr (.inr ⟨b,⟨_,_,_,hb⟩,hn⟩)) hx
    exact ⟨[v],m1,q3n ⟨_,hb⟩ (hB.nest_ne (List.getElem?_eq_some_iff.1 hx).1),by simpa [sz] using m2⟩
   ·rw [if_neg hs] at h;cases h
  ·cases h
 ·cases h
theorem qn1 (em:BlkOk Γ H w) {e:Ty} {b s i o:Nat} {p:List Prop} {y:Den e} (h:arrAt H e b s i o=some (p,y)) (hp:allP p) :
  Jf Γ H (Γ.ν b)∧∃ cs,RepC w Γ.I e y cs∧qa3 w (Γ.ν b) (i*s+o) cs:=by
 unfold arrAt at h;split at h
 ·rename_i te xs opn hg;obtain ⟨hB,hJ⟩:=em.elem hg;split at h
  ·rename_i hs;obtain ⟨rfl,rfl⟩:=hs;split at h
   ·rename_i ys hy;cases h;obtain ⟨e1,e2⟩:=qb1 hy;subst e1;subst e2;have hlt:=allP_one.1 hp;rw [qvf hlt];obtain ⟨cs,g1,g2⟩:=hB _ _ (wab hlt);exact ⟨hJ _ hlt,cs,g1,by simpa using g2⟩
   ·split at h
    ·rename_i hh;cases h;have hle:=allP_one.1 hp;obtain ⟨cs,g1,g2⟩:=qeb hB hh.1.1 e i hh.2 hle;have:=hh.1.2;exact ⟨hJ i (by omega),cs,g1,by simpa [hh.1.1] using g2⟩
    ·cases h
  ·cases h
 ·cases h
theorem qhx (em:BlkOk Γ H w):∀ (t:Ty) (cs:List AV) (vs:List Value) (p:List Prop) (y:Den t),rv H t cs=some (p,y)→allP p→Fa w Γ cs vs→RepC w (Jf Γ H) t y vs
 | .unit,cs,vs,p,y,h,hp,hf=>by
  simp only [rv] at h;split at h
  ·cases vs with
   | nil=>simp only [RepC]
   | cons=>exact hf.elim
  ·cases h
 | .prod a b,cs,vs,p,y,h,hp,hf=>by
  simp only [rv] at h;split at h
  ·rename_i p1 x q z h1 h2;cases h;obtain ⟨hp1,hp2⟩:=qae.1 hp;simp only [RepC];exact ⟨vs.take (sz a),vs.drop (sz a),(List.take_append_drop _ _).symm,qhx em a _ _ _ _ h1 hp1 (hf.take _),qhx em b _ _ _ _ h2 hp2 (hf.drop _)⟩
  ·cases h
 | .slice e,cs,vs,p,y,h,hp,hf=>by
  simp only [rv] at h;split at h
  ·rename_i t' x;obtain ⟨v,rfl,hr⟩:=qfg hf
   cases hc:qbb t' (.slice e) x with
   | none=>rw [hc] at h;cases h
   | some z=>rw [hc] at h;cases h;exact qik hc hr rfl
  ·rename_i t' xs c;obtain ⟨v,rfl,hr⟩:=qfg hf
   cases hc:qbb (.slice t') (.slice e) xs with
   | none=>rw [hc] at h;cases h
   | some z =>
    rw [hc] at h;cases h;obtain ⟨e1,e2⟩:=qar hc;cases e1;subst e2;obtain ⟨ad,hv,h1,h2,h3⟩:=qjh.1 hr;subst hv;simp only [RepC];refine ⟨ad,c,rfl,h1,h2,fun i x hx=>?_⟩
    obtain ⟨b,off,c',g1,g2,g3,g4⟩:=h3 i x hx;exact ⟨b,off,c',g1,.inl g2,g3.toJ,g4⟩
  ·rename_i b t' x;obtain ⟨v,rfl,hr⟩:=qfg hf
   cases hc:qbb t' (.slice e) x with
   | none=>rw [hc] at h;cases h
   | some z =>
    rw [hc] at h;cases h
    cases b with
    | true =>
     have hv:v=.slice none 0 0:=by simpa using hr.2.1 rfl
     subst hv;show RepC _ _ (.slice e) ([]:List (Den e)) _;simp only [RepC];exact ⟨none,0,rfl,wae _,fun _=>rfl,fun i x hx=>by simp at hx⟩
    | false=>exact qik hc (hr.2.2 rfl).1 rfl
  ·obtain ⟨v,rfl,hr⟩:=qfg hf;cases h;have hv:v=.slice none 0 0:=by simpa using hr.2.1 rfl
   subst hv;simp only [RepC];exact ⟨none,0,rfl,wae _,fun _=>rfl,fun i x hx=>by simp at hx⟩
  ·rename_i b s i len c;obtain ⟨v,rfl,hr⟩:=qfg hf;split at h
   ·rename_i ys hy;cases h;obtain ⟨rfl,hel⟩:=qoj em hy;obtain ⟨hA,ad,cap,hv,hcap,hoff,hle⟩:=qch.1 hr;have hil:i+len≤ys.length:=allP_one.1 hp;have hlen:((ys.drop i).take len).length=len:=by rw [wao,waw];omega
    subst hv;simp only [RepC];refine ⟨ad,cap,by rw [hlen],by rw [hlen];exact hle,fun hn=>(by apply Classical.byContradiction;intro hc;rw [hoff hc] at hn;cases hn),fun j x hx=>?_⟩
    have hj:j<len:=by
     rcases Nat.lt_or_ge j ((ys.drop i).take len).length with h | h
     ·omega
     ·rw [nth,wac h] at hx;cases hx
    have hx:((ys.drop i).take len)[j]?=some x:=hx;rw [wau,if_pos hj,wbt] at hx;obtain ⟨cs,g1,g2,g3⟩:=hel _ _ hx;exact ⟨_,_,cs,hoff (by omega),g2,g1,by rw [← Nat.add_mul];exact g3⟩
   ·cases h
  ·cases h
 | .optr e,cs,vs,p,y,h,hp,hf=>by
  simp only [rv] at h;split at h
  ·rename_i t' x;obtain ⟨v,rfl,hr⟩:=qfg hf;split at h
   ·rename_i z hc;cases h;exact qik hc hr rfl
   ·cases hc:qbb t' (.ptr e) x with
    | none=>rw [hc] at h;cases h
    | some z =>
     rw [hc] at h;cases h;have:=qik (H:=H) hc hr rfl;simp only [RepC] at this ⊢;obtain ⟨b,off,c,g1,g2,g3,g4⟩:=this;exact .inr ⟨z,rfl,b,off,c,g1,g2,g3,g4⟩
  ·rename_i b s i o;obtain ⟨v,rfl,hr⟩:=qfg hf;obtain ⟨hA,rfl⟩:=qdc.1 hr;simp only [RepC];split at h
   ·rename_i us hu
    cases hx:rv H e us with
    | none=>rw [hx] at h;cases h
    | some r =>
     obtain ⟨p',z⟩:=r;rw [hx] at h;cases h;unfold cellsAt at hu;split at hu
     ·rename_i ws hg;cases hu;obtain ⟨c,k1,k2⟩:=qnz (em.blk b _ (qav hg)) (i*s+o) (sz e);exact .inr ⟨z,rfl,_,_,c,rfl,q3n ⟨_,qav hg⟩ (qvs (em.blk b _ (qav hg))),qhx em e _ _ _ _ hx hp k1,k2⟩
     ·cases hu
   ·cases hx:arrAt H e b s i o with
    | none=>rw [hx] at h;cases h
    | some r =>
     obtain ⟨p',z⟩:=r;rw [hx] at h;cases h;obtain ⟨hl,c,k1,k2⟩:=qn1 em hx hp;exact .inr ⟨z,rfl,_,_,c,rfl,hl,k1.toJ,k2⟩
  ·cases h
 | .ptr e,cs,vs,p,y,h,hp,hf=>by
  simp only [rv] at h;split at h
  ·rename_i t' x;obtain ⟨v,rfl,hr⟩:=qfg hf;split at h
   ·rename_i z hc;cases h;exact qik hc hr rfl
   ·cases hc:qbb t' (.optr e) x with
    | none=>rw [hc] at h;cases h
    | some z =>
     rw [hc] at h;cases h;have:=qik (H:=H) hc hr rfl;simp only [RepC] at this ⊢
     rcases this with ⟨rfl,_⟩ | ⟨u,rfl,b,off,c,g1,g2,g3,g4⟩
     ·exact absurd (allP_one.1 hp) (by simp)
     ·exact ⟨b,off,c,g1,g2,g3,g4⟩
  ·rename_i b s i o;obtain ⟨v,rfl,hr⟩:=qfg hf;obtain ⟨hA,rfl⟩:=qdc.1 hr;simp only [RepC];split at h
   ·rename_i us hu;unfold cellsAt at hu;split at hu
    ·rename_i ws hg;cases hu;obtain ⟨c,k1,k2⟩:=qnz (em.blk b _ (qav hg)) (i*s+o) (sz e);exact ⟨_,_,c,rfl,q3n ⟨_,qav hg⟩ (qvs (em.blk b _ (qav hg))),qhx em e _ _ _ _ h hp k1,k2⟩
    ·cases hu
   ·obtain ⟨hl,c,k1,k2⟩:=qn1 em h hp;exact ⟨_,_,c,rfl,hl,k1.toJ,k2⟩
  ·cases h
 | .map k v,cs,vs,p,y,h,hp,hf=>by
  simp only [rv] at h;split at h
  ·rename_i t' x;obtain ⟨u,rfl,hr⟩:=qfg hf
   cases hc:qbb t' (.map k v) x with
   | none=>rw [hc] at h;cases h
   | some z=>rw [hc] at h;cases h;exact qik hc hr rfl
  ·rename_i b;obtain ⟨u,rfl,hr⟩:=qfg hf;split at h
   ·rename_i k' v' es hg
    cases hc:qbb (.map k' v') (.map k v) es with
    | none=>rw [hc] at h;cases h
    | some z =>
     rw [hc] at h;cases h;obtain ⟨e1,e2⟩:=qar hc;cases e1;subst e2;have hB:=em.blk b _ (qav hg);simp only [Ra,Rp,wa1,and_true] at hr;obtain ⟨hA,rfl⟩:=hr;simp only [RepB] at hB;obtain ⟨hk0,ents,cl,h1,h2,h3⟩:=hB;simp only [RepC];refine ⟨Γ.ν b,ents,cl,rfl,q3n ⟨_,qav hg⟩ hk0,h1,h2,fun i x hx=>?_⟩
     obtain ⟨ent,ck,cv,m1,m2,m3,m4,m5⟩:=h3 i x hx;exact ⟨ent,ck,cv,m1,m2.toJ,m3,m4.toJ,m5⟩
   ·cases h
  ·cases h
 | .int k,cs,vs,p,y,h,hp,hf=>by
  simp only [rv] at h;split at h
  ·rename_i t' x;obtain ⟨v,rfl,hr⟩:=qfg hf
   cases hc:qbb t' (.int k) x with
   | none=>rw [hc] at h;cases h
   | some z=>rw [hc] at h;cases h;exact qik hc hr rfl
  ·cases h
 | .bool,cs,vs,p,y,h,hp,hf=>by
  simp only [rv] at h;split at h
  ·rename_i t' x;obtain ⟨v,rfl,hr⟩:=qfg hf
   cases hc:qbb t' .bool x with
   | none=>rw [hc] at h;cases h
   | some z=>rw [hc] at h;cases h;exact qik hc hr rfl
  ·cases h
 | .oth,cs,vs,p,y,h,hp,hf=>by
  simp only [rv] at h;split at h
  ·rename_i t' x;obtain ⟨v,rfl,hr⟩:=qfg hf
   cases hc:qbb t' .oth x with
   | none=>rw [hc] at h;cases h
   | some z=>rw [hc] at h;cases h;exact qik hc hr rfl
  ·cases h
theorem qf7 (em:BlkOk Γ H w) {t:Ty} {x:AV} {v:Value} {p:List Prop} {y:Den t} (h:rvV H t x=some (p,y)) (hp:allP p) (hr:Ra w Γ x v):RepV w (Jf Γ H) t y v:=by
 unfold rvV at h;split at h
 ·rename_i hag;split at h
  ·rename_i t' z
   cases hc:qbb t' t z with
   | none=>rw [hc] at h;cases h
   | some u =>
    rw [hc] at h;cases h;obtain ⟨e1,e2⟩:=qar hc;subst e1;subst e2;obtain ⟨cs,h1,h2⟩:=Ra_val.1 hr;exact ⟨cs,h1.toJ,h2⟩
  ·rename_i l;split at h
   ·rename_i hl;simp only [Ra,Rp] at hr;obtain ⟨us,h1,h2,h3⟩:=hr;have h4:v=.agg us.toArray:=by simpa using h1
    refine ⟨us,qhx em t (ofAV l) us p y h hp (qdx hl h2),?_⟩;rw [h4];simp [mkV,hag]
   ·cases h
  ·cases h
 ·rename_i hag;have hag':isAgg t=false:=by simpa using hag
  have:=qhx em t [x] [v] p y h hp ⟨hr,trivial⟩;exact ⟨[v],this,by simp [mkV,hag']⟩
end
universe u
inductive AT where
 | d (t:Ty)
 | fn (g:FuncId) (caps:List Ty)
def AT.ts:AT→List Ty
 | .d t=>[t]
 | .fn _ caps=>caps
def tsA:List AT→List Ty
 | []=>[]
 | x::l=>x.ts++tsA l
def Cur:List Ty→Type u→Type u
 | [],R=>R
 | t::ts,R=>Den t→Cur ts R
def appC {R:Type u}:(ts:List Ty)→Cur ts R→List AV→Option R
 | [],f,_=>some f
 | t::ts,f,x::xs=>match asD t x with
  | some y=>appC ts (f y) xs
  | none=>none
 | _::_,_,[]=>none
def allD:List Ty→(List AV→Prop)→Prop
 | [],K=>K []
 | t::ts,K=>∀ x:Den t,allD ts fun l=>K (.val t x::l)
theorem qjo:∀ {ts:List Ty} {K:List AV→Prop} {env:List AV},allD ts K→qde ts env→K env
 | [],K,[],h,_=>h
 | t::ts,K,x::xs,h,he=>by
  obtain ⟨⟨y,rfl⟩,he⟩:=he;exact qjo (K:=fun l=>K (.val t y::l)) (h y) he
 | [],_,_::_,_,he=>he.elim
 | _::_,_,[],_,he=>he.elim
def qg7:(rs:List Ty)→Dens rs→AV
 | [t],x=>.val t x.1
 | rs,x=>.tup (toAV (qbc rs x))
def qg3:List AT→List AV→List AV
 | [],_=>[]
 | .d _::l,env=>env.headD .undef::qg3 l env.tail
 | .fn g caps::l,env=>.fn g (toAV (env.take caps.length))::qg3 l (env.drop caps.length)
structure Con where
 f:FuncId
 ats:List AT
 rs:List Ty
 pre:List AV→Option (List Prop)
 F:List AV→Option (Dens rs)
def Con.Ok (P:Program) (c:Con):Prop:=qbw P c.f=true ∧
 ∀ (Γ:Cx) (w:World) (env:List AV) (p:List Prop) (r:Dens c.rs) (vs:List Value),(∀ b,¬ Γ.A b)→EmbH Γ [] w→qde (tsA c.ats) env→c.pre env=some p→c.F env=some r→allP p→Fa w Γ (qg3 c.ats env) vs →
  Calls P c.f vs.toArray w fun en w'=>∃ v Γ',en=.returned v∧Ext Γ [] w Γ' [] w'∧EmbH Γ' [] w'∧Ra w' Γ' (qg7 c.rs r) v
def resD (H:List Hs):List Ty→List AV→Option (List Prop×List AV)
 | [],[]=>some ([],[])
 | t::ts,x::xs=>match rvV H t x,resD H ts xs with
  | some (p,y),some (q,l)=>some (p++q,.val t y::l)
  | _,_=>none
 | _,_=>none
def resA (H:List Hs):List AT→List AV→Option (List Prop×List AV)
 | [],[]=>some ([],[])
 | .d t::l,x::xs=>match rvV H t x,resA H l xs with
  | some (p,y),some (q,r)=>some (p++q,.val t y::r)
  | _,_=>none
 | .fn g caps::l,.fn g' cs::xs=>if Nat.beq g g'=true∧isL cs=true then match resD H caps (ofAV cs),resA H l xs with
   | some (p,ys),some (q,r)=>some (p++q,ys++r)
   | _,_=>none
  else none
 | _,_=>none
def qyu:List Ty→Bool
 | []=>true
 | t::ts=>flat t && qyu ts
def capB:AV→List Nat
 | .cons (.ref b ..) l=>b::capB l
 | .cons (.sl b ..) l=>b::capB l
 | .cons _ l=>capB l
 | _=>[]
def slB:List AV→List Nat
 | []=>[]
 | .sl b ..::l=>b::slB l
 | .fn _ c::l=>capB c++slB l
 | .agg c::l=>capB c++slB l
 | _::l=>slB l
def valB:List AV→List Nat
 | []=>[]
 | .sl b ..::l=>b::valB l
 | .mref b::l=>b::valB l
 | _::l=>valB l
def qoi (H:List Hs):List Nat→List Nat
 | []=>[]
 | b::K=>(match hget H b with
  | some (.cells vs)=>valB vs
  | some (.mix vs _ _)=>valB vs
  | _=>[])++qoi H K
def qft (H:List Hs) (args:List AV):List Nat:=slB args++qoi H (slB args)
def memL (n:Nat):List Nat→Bool
 | []=>false
 | x::l=>Nat.beq x n || memL n l
theorem qh1 {n:Nat}:∀ {l:List Nat},memL n l=true↔n∈l
 | []=>by simp [memL]
 | x::l=>by simp only [memL,wbi,qh1 (l:=l),List.mem_cons,Nat.beq_eq];exact ⟨fun h=>h.imp Eq.symm id,fun h=>h.imp Eq.symm id⟩
def qdm (K:List Nat):Nat→List Hs→List Hs
 | _,[]=>[]
 | n,.live B::H=>(if memL n K then .live B else .dead)::qdm K (n+1) H
 | n,h::H=>h::qdm K (n+1) H
def Con.eff (c:Con) (H:List Hs) (args:List AV):Option Ef :=
 match resA [] c.ats args with
 | some (p,env)=>match c.pre env,c.F env with
  | some q,some r=>some ⟨p++q,qg7 c.rs r,[],[]⟩
  | _,_=>none
 | none=>match qyu c.rs with
  | true=>match resA H c.ats args with
   | some (p,env)=>match c.pre env,c.F env with
    | some q,some r=>some ⟨p++q,qg7 c.rs r,[],qbj 0 H⟩
    | _,_=>none
   | none=>none
  | false=>match resA (qdm (qft H args) 0 H) c.ats args with
   | some (p,env)=>match c.pre env,c.F env with
    | some q,some r=>some ⟨p++q,qg7 c.rs r,(qft H args).map fun b=>(b,.dead),qbj 0 H⟩
    | _,_=>none
   | none=>none
def fits:List AT→List AV→Bool
 | [],[]=>true
 | .d _::l,_::xs=>fits l xs
 | .fn g _::l,.fn g' _::xs=>Nat.beq g g' && fits l xs
 | _,_=>false
def qwc:List AV→Bool
 | .cons _ _::_=>false
 | _=>true
def spOf:List Con→Spec
 | [],_,_,_,_=>.fail
 | c::cs,f,H,base,args=>match Nat.beq c.f f && (fits c.ats args && qwc args) with
  | true=>match c.eff H (qtr args).2 with
   | some e=>e.add (qtr args).1
   | none=>.fail
  | false=>spOf cs f H base args
section
variable {w:World} {Γ:Cx} {H:List Hs}
theorem qo0 (em:BlkOk Γ H w):∀ {ts:List Ty} {xs:List AV} {p:List Prop} {env:List AV} {vs:List Value},resD H ts xs=some (p,env)→allP p→Fa w Γ xs vs→qde ts env∧Fa w (Γ.freeze H) env vs
 | [],[],p,env,vs,h,_,hf=>by
  simp only [resD,wa0,wa2] at h;obtain ⟨_,rfl⟩:=h
  cases vs with
  | nil=>exact ⟨trivial,trivial⟩
  | cons=>exact hf.elim
 | t::ts,x::xs,p,env,vs,h,hp,hf=>by
  simp only [resD] at h;split at h
  ·rename_i p1 y q l h1 h2;cases h;obtain ⟨hp1,hp2⟩:=qae.1 hp
   cases vs with
   | nil=>exact hf.elim
   | cons v vs =>
    obtain ⟨k1,k2⟩:=qo0 em h2 hp2 hf.2;exact ⟨⟨⟨y,rfl⟩,k1⟩,Ra_val.2 (qf7 em h1 hp1 hf.1),k2⟩
  ·cases h
 | [],_::_,_,_,_,h,_,_=>by simp [resD] at h
 | _::_,[],_,_,_,h,_,_=>by simp [resD] at h
theorem qgd (em:BlkOk Γ H w):∀ {ats:List AT} {xs:List AV} {p:List Prop} {env:List AV} {vs:List Value},resA H ats xs=some (p,env)→allP p→Fa w Γ xs vs→qde (tsA ats) env∧Fa w (Γ.freeze H) (qg3 ats env) vs
 | [],[],p,env,vs,h,_,hf=>by
  simp only [resA,wa0,wa2] at h;obtain ⟨_,rfl⟩:=h
  cases vs with
  | nil=>exact ⟨trivial,trivial⟩
  | cons=>exact hf.elim
 | .d t::l,x::xs,p,env,vs,h,hp,hf=>by
  simp only [resA] at h;split at h
  ·rename_i p1 y q r h1 h2;cases h;obtain ⟨hp1,hp2⟩:=qae.1 hp
   cases vs with
   | nil=>exact hf.elim
   | cons v vs =>
    obtain ⟨k1,k2⟩:=qgd em h2 hp2 hf.2;exact ⟨⟨⟨y,rfl⟩,k1⟩,Ra_val.2 (qf7 em h1 hp1 hf.1),k2⟩
  ·cases h
 | .fn g caps::l,x::xs,p,env,vs,h,hp,hf=>by
  cases x with
  | fn g' cs =>
   simp only [resA] at h;split at h
   ·rename_i hh;obtain ⟨hg,hl⟩:=hh;have hg:g=g':=by simpa using hg
    subst hg;split at h
    ·rename_i p1 ys q r h1 h2;cases h;obtain ⟨hp1,hp2⟩:=qae.1 hp
     cases vs with
     | nil=>exact hf.elim
     | cons v vs =>
      obtain ⟨k1,k2⟩:=qgd em h2 hp2 hf.2;have hx:=hf.1;simp only [Ra,Rp,wa1,and_true] at hx;obtain ⟨us,hv,hr⟩:=hx;obtain ⟨m1,m2⟩:=qo0 em h1 hp1 (qdx hl hr);refine ⟨m1.app k1,?_⟩;have hlen:ys.length=caps.length:=m1.length;simp only [qg3];rw [← hlen,List.take_left',List.drop_left']
      ·refine ⟨?_,k2⟩;simp only [Ra,Rp,wa1,and_true];exact ⟨us,hv,qd2.2 m2⟩
      ·rfl
      ·rfl
    ·cases h
   ·cases h
  | _=>simp [resA] at h
 | [],_::_,_,_,_,h,_,_=>by simp [resA] at h
 | .d _::_,[],_,_,_,h,_,_=>by simp [resA] at h
 | .fn _ _::_,[],_,_,_,h,_,_=>by simp [resA] at h
theorem qmm {w w':World} {I I':Nat→Prop}:∀ {t:Ty} {x:Den t} {cs:List Value},flat t=true→RepC w I t x cs→RepC w' I' t x cs
 | .int k,x,cs,_,h=>by simpa only [RepC] using h
 | .bool,x,cs,_,h=>by simpa only [RepC] using h
 | .unit,x,cs,_,h=>by simpa only [RepC] using h
 | .prod a b,x,cs,hf,h=>by
  simp only [flat,wa4] at hf;simp only [RepC] at h ⊢;obtain ⟨c1,c2,e,h1,h2⟩:=h;exact ⟨c1,c2,e,qmm hf.1 h1,qmm hf.2 h2⟩
 | .slice _,_,_,hf,_=>by cases hf
 | .ptr _,_,_,hf,_=>by cases hf
 | .optr _,_,_,hf,_=>by cases hf
 | .map _ _,_,_,hf,_=>by cases hf
 | .oth,_,_,hf,_=>by cases hf
theorem qvy {w w':World} {Γ Γ':Cx} {t:Ty} {x:Den t} {v:Value} (hf:flat t=true) (h:Ra w Γ (.val t x) v):Ra w' Γ' (.val t x) v:=by
 obtain ⟨cs,h1,h2⟩:=Ra_val.1 h;exact Ra_val.2 ⟨cs,qmm hf h1,h2⟩
theorem qno {w w':World} {Γ Γ':Cx}:∀ {ts:List Ty} {x:Dens ts} {vs:List Value},qyu ts=true→Rp w Γ (toAV (qbc ts x)) vs→Rp w' Γ' (toAV (qbc ts x)) vs
 | [],x,vs,_,h=>by simpa only [qbc,toAV,Rp] using h
 | t::ts,x,vs,hf,h=>by
  simp only [qyu,wa4] at hf;simp only [qbc,toAV,Rp] at h ⊢;obtain ⟨v,us,e,h1,h2⟩:=h;refine ⟨v,us,e,?_,qno hf.2 h2⟩;have:=qvy (w':=w') (Γ':=Γ') hf.1 (show Ra w Γ (.val t x.1) v by simp only [Ra,Rp];exact h1)
  simpa only [Ra,Rp] using this
theorem q51 {w w':World} {Γ Γ':Cx} {rs:List Ty} {r:Dens rs} {v:Value} (hf:qyu rs=true) (h:Ra w Γ (qg7 rs r) v):Ra w' Γ' (qg7 rs r) v:=by
 match rs,r,h with
 | [],r,h =>
  simp only [qg7,Ra,Rp,wa1,and_true] at h ⊢;obtain ⟨us,e,h⟩:=h;exact ⟨us,e,qno (ts:=[]) (by rfl) h⟩
 | [t],r,h =>
  simp only [qyu,Bool.and_true] at hf;exact qvy hf h
 | t::u::ts,r,h =>
  simp only [qg7,Ra,Rp,wa1,and_true] at h ⊢;obtain ⟨us,e,h⟩:=h;exact ⟨us,e,qno hf h⟩
end
section
variable {w w':World} {Γ Γ1:Cx} {H:List Hs}
theorem qrd {Γ':Cx} (hI:∀ n,Γ.I n→Γ'.I n):∀ {ts:List Ty} {x:Dens ts} {vs:List Value},Rp w Γ (toAV (qbc ts x)) vs→Rp w Γ' (toAV (qbc ts x)) vs
 | [],x,vs,h=>by simpa only [qbc,toAV,Rp] using h
 | t::ts,x,vs,h=>by
  simp only [qbc,toAV,Rp] at h ⊢;obtain ⟨v,us,e,⟨u,e1,h1⟩,h2⟩:=h;exact ⟨v,us,e,⟨u,e1,h1.mono hI (fun _ _=>rfl)⟩,qrd hI h2⟩
theorem q3i {Γ':Cx} (hI:∀ n,Γ.I n→Γ'.I n) {rs:List Ty} {r:Dens rs} {v:Value} (h:Ra w Γ (qg7 rs r) v):Ra w Γ' (qg7 rs r) v:=by
 match rs,r,h with
 | [],r,h =>
  simp only [qg7,Ra,Rp,wa1,and_true] at h ⊢;obtain ⟨us,e,h⟩:=h;exact ⟨us,e,qrd (ts:=[]) hI h⟩
 | [t],r,h =>
  exact Ra_val.2 ((Ra_val.1 h).mono hI (fun _ _=>rfl))
 | t::u::ts,r,h =>
  simp only [qg7,Ra,Rp,wa1,and_true] at h ⊢;obtain ⟨us,e,h⟩:=h;exact ⟨us,e,qrd hI h⟩
theorem ql5 {Γ:Cx} {n:Nat}:¬ Wr Γ [] n:=fun h=>by
 rcases h with ⟨b,⟨B,h⟩,_⟩ | ⟨b,h,_⟩
 ·simp at h
 ·exact qmj h
theorem qoh (e:EmbH Γ H w):EmbH (Γ.freeze []) [] w:=by
 refine ⟨fun b B h=>by simp at h,fun b b' h=>by obtain ⟨B,h⟩:=h;simp at h,fun b h=>by obtain ⟨B,h⟩:=h;simp at h,fun n hn=>?_,fun b=>?_,Rows.nil fun _=>qmj,fun m b i f h=>by simp at h⟩
 ·rcases hn with h | h
  ·exact e.old n h
  ·exact absurd h ql5
 ·exact ⟨fun h=>h.elim,fun ⟨x,hx,_⟩=>by simp at hx⟩
theorem qo4 (e:EmbH Γ H w) {I:Nat→Prop} (hfr:∀ n,n<w.heap.size→w'.heap[n]?=w.heap[n]?) (hs:w.heap.size≤w'.heap.size) (ho:w'.os=w.os) (hout:w'.output=w.output)
  (hmi:∀ n,Γ.I n→I n) (him:∀ n,I n→Γ.I n∨w.heap.size≤n) (hold:∀ n,I n→n<w'.heap.size):Ext Γ H w { Γ with I:=I } H w'∧EmbH { Γ with I:=I } H w':=by
 refine ⟨⟨fun n hn _=>hfr n hn,hs,ho,hout,fun n hw=>.inl hw,fun n hn=>(him n hn).imp id .inr,hmi,fun _ h=>⟨h,rfl,rfl⟩⟩,?_⟩
 refine ⟨fun b B hB=>?_,e.inj,fun b hb hk hI=>?_,hold,e.al,e.rows.sub (fun _ _ h=>h) him hs,e.vw⟩
 ·exact RepB.mono (w:=w) (w':=w') (Γ:=Γ) (Γ':={ Γ with I:=I }) hmi (fun b hb=>hfr b (e.old b hb)) (fun _ h=>⟨h,rfl,rfl⟩) (e.alive ⟨B,hB⟩) (fun hk=>hfr _ (e.lt ⟨B,hB⟩ hk)) (fun t r o h=>⟨rfl,fun n hn=>hfr n (e.rows.lt b n ⟨t,r,o,h▸hB⟩ hn)⟩) (e.blk b B hB)
 ·rcases him _ hI with h | h
  ·exact e.imm b hb hk h
  ·have:=e.lt hb hk;have h':w.heap.size≤Γ.ν b:=h;omega
theorem qdl {K:List Nat}:∀ {H:List Hs} {n b:Nat},(qdm K n H)[b]?=(H[b]?).map fun h=>match h with
  | .live B=>if memL (n+b) K then .live B else .dead
  | h=>h
 | [],n,b=>by simp [qdm]
 | h::H,n,0=>by cases h<;>simp [qdm]
 | h::H,n,b+1=>by
  have ih:=qdl (K:=K) (H:=H) (n:=n+1) (b:=b);have e:n+1+b=n+(b+1):=by omega
  rw [e] at ih;cases h<;>simpa [qdm] using ih
theorem qbe {K:List Nat} {H:List Hs} {b:Nat} {B:Blk} (h:(qdm K 0 H)[b]?=some (.live B)):H[b]?=some (.live B)∧b∈K:=by
 rw [qdl] at h
 cases hb:H[b]? with
 | none=>rw [hb] at h;cases h
 | some x =>
  rw [hb] at h
  cases x with
  | live B' =>
   simp only [Option.map_some,wa0,wa8] at h;split at h
   ·rename_i hc;cases h;exact ⟨rfl,qh1.1 hc⟩
   ·cases h
  | free=>simp at h
  | dead=>simp at h
  | view b i f=>simp at h
theorem qkk {K:List Nat} {H:List Hs} {m b i:Nat} {f:Bool} (h:(qdm K 0 H)[m]?=some (.view b i f)):H[m]?=some (.view b i f):=by
 rw [qdl] at h
 cases hb:H[m]? with
 | none=>rw [hb] at h;cases h
 | some x =>
  rw [hb] at h
  cases x with
  | live B' =>
   simp only [Option.map_some,wa0,wa8] at h;split at h<;>cases h
  | free=>simp at h
  | dead=>simp at h
  | view b i f=>simpa using h
theorem qrz {K:List Nat} (e:EmbH Γ H w):EmbH Γ (qdm K 0 H) w:=by
 refine ⟨fun b B h=>e.blk b B (qbe h).1,fun b b' ⟨B,h⟩ ⟨B',h'⟩=>e.inj b b' ⟨B,(qbe h).1⟩ ⟨B',(qbe h').1⟩,fun b ⟨B,h⟩=>e.imm b ⟨B,(qbe h).1⟩,e.old,fun b=>?_,e.rows.sub (fun _ _ h=>(qbe h).1) (fun n h=>.inl h) (wae _),
  e.vw_keep (fun _ h=>⟨h,rfl,rfl⟩) (fun m b i f h=>qkk h) fun b t rows ho _ h=>⟨rfl,t,rows,ho,(qbe h).1,wae _⟩⟩
 rw [e.al b];constructor
 ·rintro ⟨h,hb,hf⟩;rw [qdl,hb]
  cases h with
  | free=>exact absurd rfl hf
  | dead=>exact ⟨.dead,rfl,hf⟩
  | view c i f=>exact ⟨_,rfl,hf⟩
  | live B =>
   simp only [Option.map_some];split
   ·exact ⟨_,rfl,by simp⟩
   ·exact ⟨_,rfl,by simp⟩
 ·rintro ⟨h,hb,hf⟩;rw [qdl] at hb
  cases hH:H[b]? with
  | none=>rw [hH] at hb;cases hb
  | some x =>
   refine ⟨x,rfl,?_⟩;rintro rfl;rw [hH] at hb;simp at hb;exact hf hb.symm
theorem qhs:∀ {K:List Nat} {H:List Hs} {b:Nat},(qaq H (K.map fun b=>(b,.dead)))[b]?=if b∈K∧b<H.length then some .dead else H[b]?
 | [],H,b=>by simp [qaq]
 | k::K,H,b=>by
  rw [wbh,qaq,qhs,wak]
  by_cases hb:b∈K∧b<H.length
  ·rw [if_pos hb,if_pos ⟨wan _ hb.1,hb.2⟩]
  ·rw [if_neg hb,wax]
   by_cases hk:k=b
   ·subst hk
    by_cases hl:k<H.length
    ·rw [if_pos rfl,if_pos hl,if_pos ⟨waz ..,hl⟩]
    ·rw [if_pos rfl,if_neg hl,if_neg (fun h=>hl h.2)]
     exact (wac (by omega)).symm
   ·rw [if_neg hk,if_neg];rintro ⟨h1,h2⟩
    rcases List.mem_cons.1 h1 with h | h
    ·exact hk h.symm
    ·exact hb ⟨h,h2⟩
theorem qce {K:List Nat} {H:List Hs} {b:Nat} {B:Blk} (h:(qaq H (K.map fun b=>(b,.dead)))[b]?=some (.live B)):H[b]?=some (.live B)∧b∉K:=by
 rw [qhs] at h;split at h
 ·cases h
 ·rename_i hn;refine ⟨h,fun hb=>hn ⟨hb,?_⟩⟩
  exact (List.getElem?_eq_some_iff.1 h).1
theorem q16 {K:List Nat} {H:List Hs} {m b i:Nat} {f:Bool} (h:(qaq H (K.map fun b=>(b,.dead)))[m]?=some (.view b i f)):H[m]?=some (.view b i f):=by
 rw [qhs] at h;split at h
 ·cases h
 ·exact h
theorem qnw (e:EmbH Γ H w) {K:List Nat} (hK:∀ b∈K,Γ.A b) {I:Nat→Prop} (hfr:∀ n,n<w.heap.size→w'.heap[n]?=w.heap[n]?) (hs:w.heap.size≤w'.heap.size) (ho:w'.os=w.os) (hout:w'.output=w.output)
  (hmi:∀ n,Γ.I n→I n) (him:∀ n,I n→(Γ.I n∨Wr Γ (qdm K 0 H) n)∨w.heap.size≤n) (hold:∀ n,I n→n<w'.heap.size) :
  Ext Γ H w { Γ with I:=I } (qaq H (K.map fun b=>(b,.dead))) w'∧EmbH { Γ with I:=I } (qaq H (K.map fun b=>(b,.dead))) w':=by
 refine ⟨⟨fun n hn _=>hfr n hn,hs,ho,hout,fun n hw=>.inl (hw.sub fun _ _ h=>(qce h).1),fun n hn=>?_,hmi,fun _ h=>⟨h,rfl,rfl⟩⟩,?_⟩
 ·rcases him n hn with (h | hw) | h
  ·exact .inl h
  ·exact .inr (.inl (hw.sub fun _ _ h=>(qbe h).1))
  ·exact .inr (.inr h)
 ·refine ⟨fun b B hB=>?_,fun b b' ⟨B,h⟩ ⟨B',h'⟩=>e.inj b b' ⟨B,(qce h).1⟩ ⟨B',(qce h').1⟩,fun b ⟨B,hb⟩ hk hI=>?_,hold,fun b=>?_,
   ⟨fun b b' n ⟨t,r,o,h⟩ ⟨t',r',o',h'⟩=>e.rows.dis b b' n ⟨t,r,o,(qce h).1⟩ ⟨t',r',o',(qce h').1⟩,fun b b' n ⟨t,r,o,h⟩ ⟨B',h'⟩=>e.rows.main b b' n ⟨t,r,o,(qce h).1⟩ ⟨B',(qce h').1⟩,fun b n ⟨t,r,o,h⟩ ho hI=>?_,fun b n ⟨t,r,o,h⟩ ho=>Nat.lt_of_lt_of_le (e.rows.lt b n ⟨t,r,o,(qce h).1⟩ ho) hs,fun b i i' ⟨t,r,o,h⟩=>e.rows.one b i i' ⟨t,r,o,(qce h).1⟩⟩,
   e.vw_keep (Γ':={ Γ with I:=I }) (fun _ h=>⟨h,rfl,rfl⟩) (fun m b i f h=>q16 h) fun b t rows ho _ h=>⟨rfl,t,rows,ho,(qce h).1,wae _⟩⟩
  ·have hB:=(qce hB).1;exact RepB.mono (w:=w) (w':=w') (Γ:=Γ) (Γ':={ Γ with I:=I }) hmi (fun b hb=>hfr b (e.old b hb)) (fun _ h=>⟨h,rfl,rfl⟩) (e.alive ⟨B,hB⟩) (fun hk=>hfr _ (e.lt ⟨B,hB⟩ hk)) (fun t r o h=>⟨rfl,fun n hn=>hfr n (e.rows.lt b n ⟨t,r,o,h▸hB⟩ hn)⟩) (e.blk b B hB)
  ·obtain ⟨h1,h2⟩:=qce hb
   rcases him _ hI with (h | ⟨b',⟨B',hb'⟩,hk',he⟩ | ⟨b',⟨t,r,o,hb'⟩,hn⟩) | h
   ·exact e.imm b ⟨B,h1⟩ hk h
   ·have:=e.inj b' b ⟨B',(qbe hb').1⟩ ⟨B,h1⟩ hk' hk he;exact h2 (this▸(qbe hb').2)
   ·exact e.rows.main b' b _ ⟨t,r,o,(qbe hb').1⟩ ⟨B,h1⟩ hk hn rfl
   ·have:=e.lt ⟨B,h1⟩ hk;have h':w.heap.size≤Γ.ν b:=h;omega
  ·refine (e.al b).trans ?_;rw [qhs]
   by_cases hb:b∈K∧b<H.length
   ·rw [if_pos hb];exact ⟨fun _=>⟨.dead,rfl,by simp⟩,fun _=>(e.al b).1 (hK b hb.1)⟩
   ·rw [if_neg hb]
  ·obtain ⟨h1,h2⟩:=qce h
   rcases him _ hI with (h | ⟨b',⟨B',hb'⟩,hk',he⟩ | ⟨b',⟨t',r',o',hb'⟩,hn⟩) | h
   ·exact e.rows.imm b n ⟨t,r,o,h1⟩ ho h
   ·exact e.rows.main b b' n ⟨t,r,o,h1⟩ ⟨B',(qbe hb').1⟩ hk' ho he
   ·have:=e.rows.dis b' b n ⟨t',r',o',(qbe hb').1⟩ ⟨t,r,o,h1⟩ hn ho;exact h2 (this▸(qbe hb').2)
   ·have:=e.rows.lt b n ⟨t,r,o,h1⟩ ho;omega
theorem qoa:∀ {x:AV} {vs:List Value},Rp w Γ x vs→∀ b∈capB x,Γ.A b
 | .cons a l,vs,h,b,hb=>by
  simp only [Rp] at h;obtain ⟨v,us,e,h1,h2⟩:=h;cases a
  case ref =>
   simp only [capB,List.mem_cons] at hb
   rcases hb with rfl | hb
   ·simp only [Rp] at h1;exact h1.1
   ·exact qoa h2 b hb
  case sl =>
   simp only [capB,List.mem_cons] at hb
   rcases hb with rfl | hb
   ·simp only [Rp] at h1;exact h1.1
   ·exact qoa h2 b hb
  all_goals exact qoa h2 b (by simpa [capB] using hb)
 | .undef,_,_,b,hb=>by simp [capB] at hb
 | .val _ _,_,_,b,hb=>by simp [capB] at hb
 | .gd _ _,_,_,b,hb=>by simp [capB] at hb
 | .opt _ _,_,_,b,hb=>by simp [capB] at hb
 | .anyb _ _,_,_,b,hb=>by simp [capB] at hb
 | .ref _ _ _ _,_,_,b,hb=>by simp [capB] at hb
 | .sl _ _ _ _ _,_,_,b,hb=>by simp [capB] at hb
 | .vsl _ _ _,_,_,b,hb=>by simp [capB] at hb
 | .mref _,_,_,b,hb=>by simp [capB] at hb
 | .fn _ _,_,_,b,hb=>by simp [capB] at hb
 | .tup _,_,_,b,hb=>by simp [capB] at hb
 | .agg _,_,_,b,hb=>by simp [capB] at hb
 | .nil,_,_,b,hb=>by simp [capB] at hb
theorem qsy:∀ {args:List AV} {vs:List Value},Fa w Γ args vs→∀ b∈slB args,Γ.A b
 | [],vs,_,b,hb=>by simp [slB] at hb
 | x::l,[],h,b,hb=>h.elim
 | x::l,v::vs,h,b,hb=>by
  obtain ⟨h1,h2⟩:=h;cases x
  case sl =>
   simp only [slB,List.mem_cons] at hb
   rcases hb with rfl | hb
   ·exact h1.1
   ·exact qsy h2 b hb
  case fn =>
   simp only [slB,List.mem_append] at hb
   rcases hb with hb | hb
   ·simp only [Ra,Rp,wa1,and_true] at h1;obtain ⟨us,_,h1⟩:=h1;exact qoa h1 b hb
   ·exact qsy h2 b hb
  case agg =>
   simp only [slB,List.mem_append] at hb
   rcases hb with hb | hb
   ·simp only [Ra,Rp,wa1,and_true] at h1;obtain ⟨us,_,h1,_⟩:=h1;exact qoa h1 b hb
   ·exact qsy h2 b hb
  all_goals exact qsy h2 b (by simpa [slB] using hb)
theorem qn7:∀ {l:List AV},(∀ (i:Nat) (a:AV),l[i]?=some a→∃ v,Ra w Γ a v)→∀ b∈valB l,Γ.A b
 | [],_,b,hb=>by simp [valB] at hb
 | x::l,h,b,hb=>by
  have h2:∀ (i:Nat) (a:AV),l[i]?=some a→∃ v,Ra w Γ a v:=fun i a hi=>h (i+1) a (by simpa using hi)
  obtain ⟨v,h1⟩:=h 0 x rfl;cases x
  case sl =>
   simp only [valB,List.mem_cons] at hb
   rcases hb with rfl | hb
   ·exact h1.1
   ·exact qn7 h2 b hb
  case mref =>
   simp only [valB,List.mem_cons] at hb
   rcases hb with rfl | hb
   ·exact h1.1
   ·exact qn7 h2 b hb
  all_goals exact qn7 h2 b (by simpa [valB] using hb)
theorem qxg (em:EmbH Γ H w):∀ {K:List Nat},∀ b∈qoi H K,Γ.A b
 | [],b,hb=>by simp [qoi] at hb
 | k::K,b,hb=>by
  simp only [qoi,List.mem_append] at hb
  rcases hb with hb | hb
  ·split at hb
   ·rename_i vs hg;have:=em.blk k _ (qav hg);simp only [RepB] at this;obtain ⟨_,c,el,_,_,h⟩:=this;exact qn7 (fun i a hi=>by obtain ⟨v,_,_,hv⟩:=h i a hi;exact ⟨v,hv⟩) b hb
   ·rename_i vs t xs hg;have:=(qed.1 (em.blk k _ (qav hg))).2;simp only [RepB] at this;obtain ⟨_,c,el,_,_,h⟩:=this;exact qn7 (fun i a hi=>by
     obtain ⟨v,_,_,hv⟩:=h i a (by
      unfold mixL;rw [wag (List.getElem?_eq_some_iff.1 hi).1];exact hi)
     exact ⟨v,hv⟩) b hb
   ·cases hb
  ·exact qxg em b hb
theorem qof {H':List Hs}:∀ {K:List Nat},(∀ b∈K,H'[b]?=H[b]?)→qoi H' K=qoi H K
 | [],_=>rfl
 | k::K,h=>by
  have e:qoi H' K=qoi H K:=qof fun b hb=>h b (wan _ hb)
  simp only [qoi,qaw (h k (by simp)),e]
theorem qs8 {H':List Hs} {args:List AV} (h:∀ b∈qft H args,H'[b]?=H[b]?):qft H' args=qft H args:=by
 unfold qft at h ⊢;rw [qof fun b hb=>h b (wbn _ hb)]
theorem qz1 (em:EmbH Γ H w) {args:List AV} {vs:List Value} (hf:Fa w Γ args vs):∀ b∈qft H args,Γ.A b:=fun b hb=>by
 rcases List.mem_append.1 hb with h | h
 ·exact qsy hf b h
 ·exact qxg em b h
theorem zdf {P:Program} {c:Con} (hc:c.Ok P) {args:List AV} {e:Ef} (he:c.eff H args=some e) (hob:allP e.ob) (em:EmbH Γ H w) {vs:List Value} (hf:Fa w Γ args vs) :
  Calls P c.f vs.toArray w fun en w'=>∃ v Γ',en=.returned v∧Ext Γ H w Γ' (qaq H e.up) w'∧EmbH Γ' (qaq H e.up) w'∧Ra w' Γ' e.v v:=by
 unfold Con.eff at he;split at he
 ·rename_i p env h1;split at he
  ·rename_i q r h2 h3;cases he;obtain ⟨hp,hq⟩:=qae.1 hob;obtain ⟨k1,k2⟩:=qgd (H:=[]) q2f h1 hp hf;refine Calls.mono (hc.2 (Γ.freeze []) w env q r vs (fun _ h=>h) (qoh em) k1 h2 h3 hq k2) fun en w' hen=>?_
   obtain ⟨v,Γ1,rfl,hx,em1,hr⟩:=hen;obtain ⟨a1,a2⟩:=qo4 (I:=Γ1.I) em (fun n hn=>hx.fr n hn ql5) hx.size hx.os hx.out (fun n hn=>hx.mi n (.inl hn)) (fun n hn=>by
    rcases hx.im n hn with (h | h) | h | h
    ·exact .inl h
    ·exact absurd h ql5
    ·exact absurd h ql5
    ·exact .inr h) em1.old
   exact ⟨v,_,rfl,a1,a2,q3i (Γ:=Γ1) (Γ':={ Γ with I:=Γ1.I }) (fun _ h=>h) hr⟩
  ·cases he
 ·split at he
  ·rename_i hfl;split at he
   ·rename_i p env h1;split at he
    ·rename_i q r h2 h3;cases he;obtain ⟨hp,hq⟩:=qae.1 hob;obtain ⟨k1,k2⟩:=qgd em.blkOk h1 hp hf;refine Calls.mono (hc.2 (Γ.freeze H) w env q r vs (fun _ h=>h) (qia em) k1 h2 h3 hq k2) fun en w' hen=>?_
     obtain ⟨v,Γ1,rfl,hx,em1,hr⟩:=hen;obtain ⟨a1,a2⟩:=qo4 (I:=Γ.I) em (fun n hn=>hx.fr n hn ql5) hx.size hx.os hx.out (fun n hn=>hn) (fun n hn=>.inl hn) (fun n hn=>Nat.lt_of_lt_of_le (em.old n hn) hx.size)
     exact ⟨v,_,rfl,a1,a2,q51 hfl hr⟩
    ·cases he
   ·cases he
  ·split at he
   ·rename_i p env h1;split at he
    ·rename_i q r h2 h3;cases he;obtain ⟨hp,hq⟩:=qae.1 hob;have em':=qrz (K:=qft H args) em;obtain ⟨k1,k2⟩:=qgd em'.blkOk h1 hp hf;refine Calls.mono (hc.2 (Γ.freeze (qdm (qft H args) 0 H)) w env q r vs (fun _ h=>h) (qia em') k1 h2 h3 hq k2) fun en w' hen=>?_
     obtain ⟨v,Γ1,rfl,hx,em1,hr⟩:=hen;obtain ⟨a1,a2⟩:=qnw (K:=qft H args) (I:=Γ1.I) em (qz1 em hf) (fun n hn=>hx.fr n hn ql5) hx.size hx.os hx.out (fun n hn=>hx.mi n (.inl hn)) (fun n hn=>by
      rcases hx.im n hn with h | h | h
      ·exact .inl h
      ·exact absurd h ql5
      ·exact .inr h) em1.old
     exact ⟨v,_,rfl,a1,a2,q3i (Γ:=Γ1) (Γ':={ Γ with I:=Γ1.I }) (fun _ h=>h) hr⟩
    ·cases he
   ·cases he
theorem q1s {P:Program}:∀ {cs:List Con},(∀ c∈cs,c.Ok P)→∀ (f:FuncId) (H:List Hs) (base:Nat) (args:List AV),allP (spOf cs f H base args).ob→qbw P f=true ∧
  ∀ (Γ:Cx) (w:World) (vs:List Value),EmbH Γ H w→Fa w Γ args vs →
   Calls P f vs.toArray w fun en w'=>∃ v Γ',en=.returned v∧Ext Γ H w Γ' (qaq H (spOf cs f H base args).up) w'∧EmbH Γ' (qaq H (spOf cs f H base args).up) w'∧Ra w' Γ' (spOf cs f H base args).v v
 | [],_,f,H,base,args,hob=>qaa hob
 | c::cs,h,f,H,base,args,hob=>by
  simp only [spOf] at hob ⊢;split at hob
  ·rename_i hh;have hcf:c.f=f:=by simp only [wa4] at hh;simpa using hh.1
   subst hcf;have hc:=h c (waz ..)
   cases he:c.eff H (qtr args).2 with
   | none=>rw [he] at hob;exact qaa hob
   | some e =>
    rw [he] at hob;simp only [hh];obtain ⟨o1,o2⟩:=qae.1 hob;exact ⟨hc.1,fun Γ w vs em hf=>zdf hc he o2 em (qnn hf o1)⟩
  ·rename_i hh;exact q1s (fun c hc=>h c (wan _ hc)) f H base args hob
theorem qte {f:FuncId} {H:List Hs} {base:Nat} {m:Bool} {args:List AV}:∀ {cs:List Con},spOf cs f H base (mark m::args)=.fail
 | []=>rfl
 | c::cs=>by simp only [spOf,mark,qwc,wbk];exact qte
theorem qze {P:Program} {cs:List Con} (h:∀ c∈cs,c.Ok P):SpecOk P (spOf cs) :=
 ⟨q1s h,fun f H base c args hob=>by rw [qte] at hob;exact qaa hob⟩
theorem qwr {H H':List Hs} (h:Lives H H') {t:Ty} {x:AV} {r:List Prop×Den t} (h1:rvV H t x=some r):rvV H' t x=some r:=by
 unfold rvV at h1 ⊢
 by_cases ha:isAgg t=true
 ·rw [if_pos ha] at h1 ⊢
  cases x with
  | agg l =>
   cases hl:isL l with
   | true =>
    simp only [hl] at h1 ⊢;exact qf3 h _ _ _ h1
   | false=>simp only [hl] at h1;cases h1
  | _=>exact h1
 ·rw [if_neg ha] at h1 ⊢;exact qf3 h _ _ _ h1
theorem qtb {H H':List Hs} (h:Lives H H'):∀ {ts:List Ty} {xs:List AV} {r:List Prop×List AV},resD H ts xs=some r→resD H' ts xs=some r
 | [],[],r,hr=>by simpa only [resD] using hr
 | t::ts,x::xs,r,hr=>by
  simp only [resD] at hr ⊢;split at hr
  ·rename_i p y q l h1 h2;have h1':rvV H' t x=some (p,y):=qwr h h1;rw [h1',qtb h h2];exact hr
  ·cases hr
 | [],_::_,_,hr=>by simp [resD] at hr
 | _::_,[],_,hr=>by simp [resD] at hr
theorem qj3 {H H':List Hs} (h:Lives H H'):∀ {ats:List AT} {xs:List AV} {r:List Prop×List AV},resA H ats xs=some r→resA H' ats xs=some r
 | [],[],r,hr=>by simpa only [resA] using hr
 | .d t::l,x::xs,r,hr=>by
  simp only [resA] at hr ⊢;split at hr
  ·rename_i p y q l h1 h2;have h1':rvV H' t x=some (p,y):=qwr h h1;rw [h1',qj3 h h2];exact hr
  ·cases hr
 | .fn g caps::l,x::xs,r,hr=>by
  cases x with
  | fn g' cs =>
   simp only [resA] at hr ⊢;split at hr
   ·rename_i hh;rw [if_pos hh];split at hr
    ·rename_i h1 h2;rw [qtb h h1,qj3 h h2];exact hr
    ·cases hr
   ·cases hr
  | _=>simp [resA] at hr
 | [],_::_,_,hr=>by simp [resA] at hr
 | .d _::_,[],_,hr=>by simp [resA] at hr
 | .fn _ _::_,[],_,hr=>by simp [resA] at hr
theorem Con.eff_sim {c:Con} {H H':List Hs} {args:List AV} {e:Ef} (he:c.eff H args=some e) (ha:qeq H H' e):∃ e',c.eff H' args=some e'∧Ef.sim e e':=by
 unfold Con.eff at he ⊢;split at he
 ·rename_i p env h1;split at he
  ·rename_i q r h2 h3;cases he;exact ⟨_,rfl,Ef.sim.refl _⟩
  ·cases he
 ·rename_i h1;split at he
  ·rename_i hfl;split at he
   ·rename_i p env h4;split at he
    ·rename_i q r h2 h3;cases he;have hl:Lives H H':=qka rfl ha.1;simp only [hfl,qj3 hl h4,h2,h3];exact ⟨_,rfl,rfl,rfl,rfl⟩
    ·cases he
   ·cases he
  ·rename_i hfl;split at he
   ·rename_i p env h4;split at he
    ·rename_i q r h2 h3;cases he;have hl:Lives H H':=qka rfl ha.1;have hre:qft H' args=qft H args:=qs8 fun b hb=>ha.2 (b,.dead) (List.mem_map.2 ⟨b,hb,rfl⟩)
     have hl':Lives (qdm (qft H args) 0 H) (qdm (qft H args) 0 H'):=by
      refine ⟨fun b B hB=>?_,fun m b i f hm=>?_⟩
      ·obtain ⟨g1,g2⟩:=qbe (qav hB);have g3:hget H b=some B:=by simp [hget,g1]
       have g4:=qav (hl.hg b B g3);unfold hget;rw [qdl,g4];simp [qh1.2 g2]
      ·rw [qdl,hl.hv _ _ _ _ (qkk hm)];rfl
     simp only [hfl,hre,qj3 hl' h4,h2,h3];exact ⟨_,rfl,rfl,rfl,rfl⟩
    ·cases he
   ·cases he
theorem qns:∀ {cs:List Con},qc8 (spOf cs)
 | [],f,H,H',base,args,hob,_=>qaa hob
 | c::cs,f,H,H',base,args,hob,ha=>by
  simp only [spOf] at hob ha ⊢;split at hob
  ·rename_i hh;rw [hh] at ha;simp only at ha
   cases he:c.eff H (qtr args).2 with
   | none=>rw [he] at hob;exact qaa hob
   | some e =>
    rw [he] at hob ha;simp only at ha ⊢;obtain ⟨e',h1,h2,h3,h4⟩:=Con.eff_sim he ha;rw [h1];exact ⟨by simp only [Ef.add,h2],h3,h4⟩
  ·rename_i hh;rw [hh] at ha;exact qns f H H' base args hob ha
end
inductive RS where
 | tmp (n:Nat)
 | cell (n:Nat) (ty:Ty)
def qb2 (P:Program):List ResultVar→Option (List RS)
 | []=>some []
 | .tmp t::l=>match qb2 P l with
  | some r=>some (.tmp t::r)
  | none=>none
 | .cell a t::l=>match tyS P t,qb2 P l with
  | some ty,some r=>some (.cell a ty::r)
  | _,_=>none
def qnr (S:St) (t:Ty):RS→Option (List Prop×Den t)
 | .tmp n=>match rvV S.H t (peel (S.T.getD n .undef)).2 with
  | some (p,y)=>some ((peel (S.T.getD n .undef)).1++p,y)
  | none=>none
 | .cell n ty=>match rvV S.H (.ptr ty) (peel (S.T.getD n .undef)).2 with
  | some (p,y)=>match qbb ty t y with
   | some z=>some ((peel (S.T.getD n .undef)).1++p,z)
   | none=>none
  | none=>none
def qyt (S:St):(rs:List Ty)→List RS→Option (List Prop×Dens rs)
 | [],[]=>some ([],())
 | t::ts,n::l=>match qnr S t n,qyt S ts l with
  | some (p,y),some (q,r)=>some (p++q,(y,r))
  | _,_=>none
 | [],_::_=>none
 | _::_,[]=>none
def finO (rs:List Ty) (slots:List RS):KT (Dens rs):=fun Y f e S=>match e with
 | .exit _=>none
 | _=>match qyt S rs slots with
  | some (p,y)=>gdL p (some (f y))
  | none=>none
theorem q6m {rs:List Ty} {slots:List RS}:NatK (finO rs slots):=fun Y f e S=>by
 cases e<;>simp only [finO]
 ·split
  ·rw [qd4];rfl
  ·rfl
 ·rfl
 ·split
  ·rw [qd4];rfl
  ·rfl
def impL:List Prop→Prop→Prop
 | [],X=>X
 | p::ps,X=>p→impL ps X
theorem qnd:∀ {l:List Prop} {X:Prop},impL l X→allP l→X
 | [],_,h,_=>h
 | p::l,X,h,hp=>qnd (h (qa1.1 hp).1) (qa1.1 hp).2
def Con.vc (c:Con) (sp:Spec) (L:List LSh) (ac:AC) (n:Nat) (slots:List RS):Prop :=
 allD (tsA c.ats) fun env=>match c.pre env,c.F env with
  | some p,some r=>impL p (runO sp L ac ⟨qg3 c.ats env++List.replicate n .undef,[]⟩ (finO c.rs slots) (Dens c.rs) id=some r)
  | _,_=>False
section
variable {P:Program}
theorem qjt {w:World} {Γ:Cx} {S:St} {a:Act} (em:Emb Γ S a w) {g:ResultVar→Sem Value} (hg:∀ t,g (.tmp t)=pure (a.tmps.getD t undef)) (hc:∀ n t,g (.cell n t)=do loadVar t (← asAddr (a.tmps.getD n undef)))
  {t:Ty} {p:List Prop} {y:Den t} {x:ResultVar} {r:RS} (hx:qb2 P [x]=some [r]) (h:qnr S t r=some (p,y)) (hp:allP p):∃ v,(g x).run P w=.ok v w∧RepV w (Jf Γ S.H) t y v:=by
 cases x with
 | tmp n =>
  simp only [qb2,wa0,wa1,and_true] at hx;subst hx;simp only [qnr] at h;split at h
  ·rename_i q z h1;cases h;obtain ⟨hp0,hp1⟩:=qae.1 hp;exact ⟨_,by rw [hg];rfl,qf7 em.heap.blkOk h1 hp1 (qaf (qsl em n) hp0)⟩
  ·cases h
 | cell n tid =>
  simp only [qb2] at hx;split at hx
  ·rename_i ty r' ht hr';cases hr';simp only [wa0,wa1,and_true] at hx;subst hx;simp only [qnr] at h;split at h
   ·rename_i q z h1;split at h
    ·rename_i z' h2;cases h;obtain ⟨e1,e2⟩:=qar h2;subst e1;subst e2;obtain ⟨hp0,hp1⟩:=qae.1 hp;obtain ⟨cs,c1,c2⟩:=qf7 em.heap.blkOk h1 hp1 (qaf (qsl em n) hp0);simp only [RepC] at c1;obtain ⟨b,off,c,d1,d2,d3,d4⟩:=c1;have hv:a.tmps.getD n undef=.pointer (some ⟨b,off,none⟩):=by rw [c2,d1];rfl
     refine ⟨mkV ty c,?_,c,d3,rfl⟩;rw [hc,hv];simp only [Sem.run_bind,asAddr,Sem.run_pure,wbx];exact qiu ht (RepC.length _ _ _ d3) d4
    ·cases h
   ·cases h
  ·cases hx
theorem qjd {x:ResultVar} {l:List ResultVar} {slots:List RS} (h:qb2 P (x::l)=some slots):∃ r rest,slots=r::rest∧qb2 P [x]=some [r]∧qb2 P l=some rest:=by
 cases x with
 | tmp t =>
  simp only [qb2] at h ⊢;split at h
  ·rename_i r hr;cases h;exact ⟨_,_,rfl,rfl,hr⟩
  ·cases h
 | cell a t =>
  simp only [qb2] at h ⊢;split at h
  ·rename_i ty r h1 h2;cases h;exact ⟨_,_,rfl,by rw [h1],h2⟩
  ·cases h
theorem qod {w:World} {Γ:Cx} {S:St} {a:Act} (em:Emb Γ S a w) {g:ResultVar→Sem Value} (hg:∀ t,g (.tmp t)=pure (a.tmps.getD t undef)) (hc:∀ n t,g (.cell n t)=do loadVar t (← asAddr (a.tmps.getD n undef))) :
  ∀ {rs:List Ty} {slots:List RS} {l:List ResultVar} {p:List Prop} {y:Dens rs},qb2 P l=some slots→qyt S rs slots=some (p,y)→allP p →
  ∃ us,(l.mapM g).run P w=.ok us w∧Rp w (Γ.freeze S.H) (toAV (qbc rs y)) us
 | rs,slots,[],p,y,hl,h,_=>by
  simp only [qb2,wa0] at hl;subst hl
  cases rs with
  | nil=>exact ⟨[],by simp,by simp only [qbc,toAV,Rp]⟩
  | cons t ts=>simp [qyt] at h
 | rs,slots,x::l,p,y,hl,h,hp=>by
  obtain ⟨r,rest,rfl,h1,h2⟩:=qjd hl
  cases rs with
  | nil=>simp [qyt] at h
  | cons t ts =>
   simp only [qyt] at h;split at h
   ·rename_i p1 z q r' k1 k2;cases h;obtain ⟨hp1,hp2⟩:=qae.1 hp;obtain ⟨v,m1,m2⟩:=qjt em hg hc h1 k1 hp1;obtain ⟨us,m3,m4⟩:=qod em hg hc h2 k2 hp2;refine ⟨v::us,by simp [List.mapM_cons,m1,m3],?_⟩
    simp only [qbc,toAV,Rp];exact ⟨_,_,rfl,⟨_,rfl,m2⟩,m4⟩
   ·cases h
def resV:List Value→Value
 | [v]=>v
 | vs=>.tuple vs.toArray
theorem qmz {w:World} {fn:Func} {tmps:Array Value} {us:List Value} (h:∀ g:ResultVar→Sem Value,(∀ t,g (.tmp t)=pure (tmps.getD t undef))→(∀ n t,g (.cell n t)=do loadVar t (← asAddr (tmps.getD n undef)))→(fn.results.toList.mapM g).run P w=.ok us w) :
  (results fn tmps).run P w=.ok (resV us) w:=by
 unfold results;simp only [Array.mapM_eq_mapM_toList,Sem.run_bind,Sem.run_map];rw [h _ (fun _=>rfl) (fun _ _=>rfl)]
 match us with
 | []=>rfl
 | [v]=>rfl
 | v::u::us=>rfl
theorem zao {w:World} {Γ:Cx}:∀ {rs:List Ty} {y:Dens rs} {us:List Value},Rp w Γ (toAV (qbc rs y)) us→Ra w Γ (qg7 rs y) (resV us)
 | [],y,us,k2=>by
  simp only [qbc,toAV,Rp] at k2;subst k2;simp only [qg7,qbc,toAV,Ra,Rp,wa1,and_true];exact ⟨[],rfl,rfl⟩
 | [t],y,us,k2=>by
  simp only [qbc,toAV,Rp] at k2;obtain ⟨v,us',rfl,k3,rfl⟩:=k2;simp only [qg7,Ra,Rp];exact k3
 | t::u::ts,y,us,k2=>by
  have k2':=k2;simp only [qbc,toAV,Rp] at k2;obtain ⟨v1,us',rfl,_,v2,us'',rfl,_,_⟩:=k2;simp only [qg7,Ra,Rp,wa1,and_true];exact ⟨_,rfl,k2'⟩
theorem Con.prove (c:Con) {sp:Spec} (hsp:SpecOk P sp) (hfr:qc8 sp) (hm:P.follows .mixedOrders=true) {fn:Func} {code:Code} {ms:List Nat} {lm lm':List (List Nat)} {ac:AC} {slots:List RS} {n:Nat}
  (hf:P.funcs[c.f]?=some fn) (hb:fn.body=some code) (hcall:qbw P c.f=true) (hn:fn.ntmps-c.ats.length=n) (hres:qb2 P fn.results.toList=some slots) (hc:qfk P ms code lm=some (ac,lm'))
  {L:List LSh} (h:c.vc sp L ac n slots):c.Ok P:=by
 refine ⟨hcall,fun Γ w env p r vs hA em henv hpre hF hp hargs=>?_⟩
 have h:=qjo h henv;rw [hpre,hF] at h;have h:=qnd h hp;have hlen:(qg3 c.ats env).length=vs.length:=hargs.length;have hal:(qg3 c.ats env).length=c.ats.length:=by
  have:∀ (ats:List AT) (env:List AV),(qg3 ats env).length=ats.length:=by
   intro ats
   induction ats with
   | nil=>intro env;rfl
   | cons x l ih=>intro env;cases x<;>simp [qg3,ih]
  exact this _ _
 have em0:Emb Γ ⟨qg3 c.ats env++List.replicate n .undef,[]⟩ { tmps:=vs.toArray++Array.replicate (fn.ntmps-vs.toArray.size) undef,defers:=[] } w:=by
  refine ⟨rfl,?_,fun i x hx=>?_,em⟩
  ·simp only [Array.size_append,Array.size_replicate,waf,war,List.size_toArray];rw [hlen,← hn,← hal,hlen]
  ·rcases Nat.lt_or_ge i vs.length with hi | hi
   ·rw [wag (by omega)] at hx
    obtain ⟨v,hv,hr⟩:=hargs.get i x hx;refine ⟨v,?_,hr⟩;rw [Array.getElem?_append_left (by simpa using hi)]
    simpa using hv
   ·rw [wah (by omega),way] at hx
    split at hx
    ·rename_i hlt;cases hx;have hsz:i<(vs.toArray++Array.replicate (fn.ntmps-vs.toArray.size) undef).size:=by
      simp only [Array.size_append,Array.size_replicate,List.size_toArray];omega
     exact ⟨_,Array.getElem?_eq_getElem hsz,qcp⟩
    ·cases hx
 refine calls_of_wp hf hb (wp_mono (qo5 hsp hfr hm code lm ac lm' hc _ q6m r Γ _ _ w em0 h) fun e a w' hq=>?_)
 obtain ⟨Γ',S',em',hx,hk⟩:=hq;have key:∀ hk:finO c.rs slots (Dens c.rs) id .normal S'=some r,a.defers=[]∧∃ v,(results fn a.tmps).run P w'=.ok v w'∧∃ v' Γ',Ending.returned v=.returned v'∧Ext Γ [] w Γ' [] w'∧EmbH Γ' [] w'∧Ra w' Γ' (qg7 c.rs r) v':=by
  intro hk;simp only [finO] at hk;split at hk
  ·rename_i q y hy;obtain ⟨hq,he⟩:=qbl.1 hk;simp only [id,wa0] at he;subst he;have hex:∃ us,(∀ g:ResultVar→Sem Value,(∀ t,g (.tmp t)=pure (a.tmps.getD t undef))→(∀ n t,g (.cell n t)=do loadVar t (← asAddr (a.tmps.getD n undef)))→(fn.results.toList.mapM g).run P w'=.ok us w')∧Rp w' (Γ'.freeze S'.H) (toAV (qbc c.rs y)) us:=by
    let g0:ResultVar→Sem Value:=fun | .tmp t=>pure (a.tmps.getD t undef) | .cell n t=>do loadVar t (← asAddr (a.tmps.getD n undef))
    obtain ⟨us,u1,u2⟩:=qod em' (g:=g0) (fun _=>rfl) (fun _ _=>rfl) hres hy hq
    refine ⟨us,fun g h1 h2=>?_,u2⟩
    have:g=g0:=by funext x;cases x<;>simp [g0,h1,h2]
    rw [this];exact u1
   obtain ⟨us,k1,k2⟩:=hex;refine ⟨em'.defers,_,qmz k1,_,Γ'.freeze S'.H,rfl,?_,qia em'.heap,?_⟩
   ·refine ⟨hx.fr,hx.size,hx.os,hx.out,fun n hn=>absurd hn ql5,fun n hn=>?_,fun n hn=>.inl (hx.mi n hn),fun b hb=>absurd hb (hA b)⟩
    rcases hn with hn | hn
    ·exact hx.im n hn
    ·rcases hx.wr n hn with h1 | h1
     ·exact absurd h1 ql5
     ·exact .inr (.inr h1)
   ·exact zao k2
  ·cases hk
 cases e with
 | normal=>exact key hk
 | ret=>exact key hk
 | exit i=>cases hk
 | goto l=>exact hk.elim
 | panic c=>exact hk.elim
 | outgrown=>exact hk.elim
end
structure Comp where
 ac:AC
 n:Nat
 slots:List RS
def comp (P:Program) (f:FuncId) (k:Nat) (ms:List Nat) (lm:List (List Nat)):Option Comp :=
 match P.funcs[f]? with
 | some fn => match fn.name == "runtime.NumGoroutine" with
  | true=>none
  | false=>match fn.body with
   | some code=>match qfk P ms code lm,qb2 P fn.results.toList with
    | some (ac,_),some slots=>some ⟨ac,fn.ntmps-k,slots⟩
    | _,_=>none
   | none=>none
 | none=>none
def Con.goal (P:Program) (sp:Spec) (c:Con) (L:List LSh) (ms:List Nat) (lm:List (List Nat)):Prop :=
 match comp P c.f c.ats.length ms lm with
 | some ⟨ac,n,slots⟩=>c.vc sp L ac n slots
 | none=>False
theorem Con.of_goal {P:Program} {cs:List Con} (hm:P.follows .mixedOrders=true) (h:∀ c∈cs,c.Ok P) (c:Con) {L:List LSh} {ms:List Nat} {lm:List (List Nat)} (hg:c.goal P (spOf cs) L ms lm):c.Ok P:=by
 unfold Con.goal at hg;split at hg
 ·rename_i ac n slots hc;unfold comp at hc;split at hc
  ·rename_i fn hf;split at hc
   ·cases hc
   ·rename_i hnm;split at hc
    ·rename_i code hb;split at hc
     ·rename_i ac' lm' slots' h1 h2;cases hc;refine Con.prove c (qze h) qns hm hf hb ?_ rfl h2 h1 hg;simp [qbw,hf,hnm,hb]
     ·cases hc
    ·cases hc
  ·cases hc
 ·exact hg.elim
def mkC (f:FuncId) (ats:List AT) (rs:List Ty) (pre:Cur (tsA ats) (List Prop)) (F:Cur (tsA ats) (Dens rs)):Con:=⟨f,ats,rs,appC (tsA ats) pre,appC (tsA ats) F⟩
theorem okN {P:Program}:∀ c∈([]:List Con),c.Ok P:=fun _ h=>nomatch h
theorem okC {P:Program} {c:Con} {cs:List Con} (h:c.Ok P) (hs:∀ x∈cs,x.Ok P):∀ x∈c::cs,x.Ok P:=fun x hx=>by
 rcases List.mem_cons.1 hx with rfl | hx
 ·exact h
 ·exact hs x hx
section
variable {S X σ A:Type}
theorem qei {step:S→Option (Lp S X)} {s s':S} (h:step s=some (.go s')):qb0 step s=qb0 step s':=by rw [qnf,h]
theorem qdt {step:S→Option (Lp S X)} {s:S} {x:X} (h:step s=some (.out x)):qb0 step s=some x:=by rw [qnf,h]
end
theorem qc7 {X:Type} {x:Option X}:gd True x=x:=if_pos trivial
def lm30:List (List Nat):=[[0],[1],[2],[3],[4],[5],[6],[7],[8],[9],[10],[11],[12],[13],[14],[15],[16],[17],[18],[19],[20],[21],[22],[23],[24],[25],[26],[27],[28],[29]]
theorem qjz {n:Int} (h : -9223372036854775808≤n∧n≤9223372036854775807):wr .i64 n=n:=by show IntKind.i64.wrap n=n;rw [IntKind.wrap_i64];omega
theorem qc4 {x y:Int}:ilt x y=true↔x<y:=by simp [ilt]
theorem qca {x y:Int}:ilt x y=false↔y≤x:=by simp [ilt]
theorem qr8 {x y:Int}:ile x y=true↔x≤y:=by simp [ile]
theorem qne {x y:Int}:ile x y=false↔y<x:=by simp [ile]
theorem qdp {x y:Int}:ieq x y=true↔x=y:=by simp [ieq]
theorem qjk {x y:Int}:ieq x y=false↔x≠y:=by simp [ieq]
theorem q4b {x y:Bool}:beqB x y=true↔x=y:=by simp [beqB]
theorem qr7:∀ {t:Ty} (_:qc0 t=true) {x y:Den t},deq t x y=true↔x=y
 | .int k,_,x,y=>qdp
 | .bool,_,x,y=>q4b
 | .unit,_,x,y=>⟨fun _=>rfl,fun _=>rfl⟩
 | .prod a b,h,x,y=>by
  simp only [qc0,wa4] at h;simp only [deq,wa4,qr7 h.1,qr7 h.2];exact ⟨fun h=>Prod.ext h.1 h.2,fun h=>by subst h;exact ⟨rfl,rfl⟩⟩
theorem q63 {α:Type} {b:Bool} {x y:α} (h:b=true):cond b x y=x:=by rw [h];rfl
theorem q65 {α:Type} {b:Bool} {x y:α} (h:b=false):cond b x y=y:=by rw [h];rfl
end
end Go.Ab
