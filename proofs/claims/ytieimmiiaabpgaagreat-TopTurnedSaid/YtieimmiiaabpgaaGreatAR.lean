/- Loops: what a state must look like at the head of a loop,and. -/
import Derived.Test.YtieimmiiaabpgaaGreatAN
import Derived.KernelRfl
set_option linter.unusedVariables false
set_option linter.unusedSimpArgs false
namespace Go.Ab
noncomputable section
inductive TV where
 | u
 | v (t:Ty)
 | sl (j s i:Nat)
 | slf (j s:Nat)
 | ref (j s i o:Nat)
 | mref (j:Nat)
 | fn (f:FuncId) (caps:TV)
 | nil
 | cons (a l:TV)
 | opt (x:TV)
inductive TB where
 | arr (t:Ty) (opn:Bool)
 | cells (l:List TV)
 | map (k v:Ty)
 | dead
 | nest (t:Ty)
 | view (j:Nat)
 | mix (l:List TV) (t:Ty)
def TV.ts:TV→List Ty
 | .v t=>[t]
 | .sl ..=>[.int .i64]
 | .fn _ c=>c.ts
 | .cons a l=>a.ts++l.ts
 | .opt x=>.bool::x.ts
 | _=>[]
def TB.ts:TB→List Ty
 | .arr t _=>[.slice t]
 | .cells l=>l.flatMap TV.ts
 | .map k v=>[.map k v]
 | .dead=>[]
 | .nest t=>[.slice (.slice t)]
 | .view _=>[.int .i64]
 | .mix l t=>.slice t::l.flatMap TV.ts
def tsS (l:List (Nat×TV)):List Ty:=l.flatMap fun p=>p.2.ts
def tsB (l:List TB):List Ty:=l.flatMap TB.ts
def qfq:Nat→List AV→List AV
 | 0,l=>l
 | _+1,[]=>[]
 | n+1,_::l=>qfq n l
def TV.n:TV→Nat
 | .v _=>1
 | .sl ..=>1
 | .fn _ c=>c.n
 | .cons a l=>Nat.add a.n l.n
 | .opt x=>Nat.succ x.n
 | _=>0
def cntC:List TV→Nat
 | []=>0
 | x::l=>Nat.add x.n (cntC l)
def TB.n:TB→Nat
 | .cells l=>cntC l
 | .dead=>0
 | .mix l _=>Nat.succ (cntC l)
 | _=>1
def cntS:List (Nat×TV)→Nat
 | []=>0
 | x::l=>Nat.add x.2.n (cntS l)
theorem TV.n_eq (x:TV):x.ts.length=x.n:=by
 induction x with
 | fn f c ih=>exact ih
 | cons a l iha ihl=>simp only [TV.ts,TV.n,wae,iha,ihl];rfl
 | opt x ih=>simp only [TV.ts,TV.n,wa5,ih]
 | _=>rfl
theorem qnp:∀ {l:List TV},(l.flatMap TV.ts).length=cntC l
 | []=>rfl
 | x::l=>by rw [wbm,wae,TV.n_eq,qnp];rfl
theorem TB.n_eq (x:TB):x.ts.length=x.n:=by
 cases x with
 | cells l=>exact qnp
 | mix l t=>exact congrArg Nat.succ qnp
 | _=>rfl
theorem q1p:∀ {l:List (Nat×TV)},(tsS l).length=cntS l
 | []=>rfl
 | x::l=>by
  have:=q1p (l:=l);simp only [tsS] at this ⊢;rw [wbm,wae,TV.n_eq,this];rfl
theorem qc2:∀ {h r:List AV} {n:Nat},h.length=n→qfq n (h++r)=r
 | [],r,_,rfl=>rfl
 | x::h,r,_,rfl=>qc2 (h:=h) rfl
def q64:AV→Int
 | .val (.int _) n=>n
 | _=>0
def qi2 (t:Ty) (a:AV):List (Den t):=(qfw t a).getD []
def q7a (k v:Ty) (a:AV):List (Den k×Den v):=match a with
 | .val t x=>(qa9 t (.map k v) x).getD []
 | _=>[]
def zc7:AV→Bool
 | .val .bool b=>b
 | _=>false
def nmAt:List Nat→Nat→Nat
 | [],_=>0
 | x::_,0=>x
 | _::l,j+1=>nmAt l j
def qa3:Nat→Nat→List Nat
 | _,0=>[]
 | a,n+1=>a::qa3 (Nat.succ a) n
def qsj:List TB→List AV→List Nat
 | [],_=>[]
 | b::bs,env=>(match b with
  | .arr t _=>List.length (α:=Den t) (qi2 t (env.headD .undef))
  | .nest t=>List.length (α:=Den (.slice t)) (qi2 (.slice t) (env.headD .undef))
  | _=>0)::qsj bs (qfq b.n env)
def qdh (nm lens:List Nat):TV→List AV→AV
 | .u,_=>.undef
 | .v _,env=>env.headD .undef
 | .sl j s i,env=>.sl (nmAt nm j) s i (q64 (env.headD .undef)).toNat none
 | .slf j s,_=>.sl (nmAt nm j) s 0 (nmAt lens j) none
 | .ref j s i o,_=>.ref (nmAt nm j) s i o
 | .mref j,_=>.mref (nmAt nm j)
 | .fn f c,env=>.fn f (qdh nm lens c env)
 | .nil,_=>.nil
 | .cons a l,env=>.cons (qdh nm lens a env) (qdh nm lens l (qfq a.n env))
 | .opt x,env=>.opt (zc7 (env.headD .undef)) (qdh nm lens x (qfq 1 env))
def qtg (nm lens:List Nat):List (Nat×TV)→List AV→List AV→List AV
 | [],_,T=>T
 | (n,tv)::r,env,T=>qtg nm lens r (qfq tv.n env) (T.set n (qdh nm lens tv env))
def qfl (nm lens:List Nat):List TV→List AV→List AV
 | [],_=>[]
 | tv::r,env=>qdh nm lens tv env::qfl nm lens r (qfq tv.n env)
def qc4 (nm lens:List Nat) (env:List AV):TB→Hs
 | .arr t opn=>.live (.arr t (qi2 t (env.headD .undef)) opn)
 | .cells l=>.live (.cells (qfl nm lens l env))
 | .map k v=>.live (.map k v (q7a k v (env.headD .undef)))
 | .dead=>.dead
 | .nest t=>.live (.nest t (qi2 (.slice t) (env.headD .undef)) none)
 | .view j=>.view (nmAt nm j) (q64 (env.headD .undef)).toNat false
 | .mix l t=>.live (.mix (qfl nm lens l (qfq 1 env)) t (qi2 t (env.headD .undef)))
def qbg (nm lens:List Nat):List TB→List AV→List Hs
 | [],_=>[]
 | b::bs,env=>qc4 nm lens env b::qbg nm lens bs (qfq b.n env)
def qeq:List Hs→List Hs
 | []=>[]
 | .live _::H=>.dead::qeq H
 | .view ..::H=>.dead::qeq H
 | h::H=>h::qeq H
def qni:List Nat→List AV→List AV
 | [],T=>T
 | n::l,T=>qni l (T.set n .undef)
def q0m (asg:List Nat) (sl:List (Nat×TV)) (nm lens:List Nat) (T:List AV) (env:List AV):List AV:=qtg nm lens sl env (qni asg T)
def qsu (k len n:Nat):List Nat:=qa3 0 k++qa3 (len+k) (n-k)
def pinH:Nat→List Hs→List Hs→Nat→List Hs
 | k+1,b::B,_::K,d=>b::pinH k B K (d+1)
 | _,B,K,d=>K++(List.replicate d .dead++B)
def qjk (asg:List Nat) (sl:List (Nat×TV)) (bl:List TB) (k:Nat) (S:St) (env:List AV):St :=
 match qsu k S.H.length bl.length,qfq (cntS sl) env with
 | nm,r=>match qsj bl r with
  | lens=>⟨q0m asg sl nm lens S.T env,pinH k (qbg nm lens bl r) (qeq S.H) 0⟩
def qlz:TV→AV→List Prop×AV
 | .opt _,x=>qrk x
 | _,x=>peel x
def zdx:AV→Bool
 | .vsl _ xs c=>xs.isEmpty && Nat.beq c 0
 | _=>false
def nonN:AV→Option Prop
 | .sl _ _ _ len _=>some (len≠0)
 | .vsl _ xs _=>some (xs.length≠0)
 | .val t xs=>match t,xs with
  | .slice e,xs=>some (List.length (α:=Den e) xs≠0)
  | _,_=>none
 | _=>none
def q58:List Ty→List AV
 | []=>[]
 | t::ts=>.val t (dflt t)::q58 ts
def quw:TV→AV→List (Nat×Nat)
 | .sl j ..,.sl b ..=>[(j,b)]
 | .slf j ..,.sl b ..=>[(j,b)]
 | .ref j ..,.ref b ..=>[(j,b)]
 | .mref j,.mref b=>[(j,b)]
 | .fn _ c,.fn _ d=>quw c d
 | .cons a l,.cons x y=>quw a (qlz a x).2++quw l y
 | .opt x,y=>match y with
  | .opt _ a=>quw x (peel a).2
  | a=>quw x a
 | _,_=>[]
def qfi:List TV→List AV→List (Nat×Nat)
 | tv::l,v::vs=>quw tv (qlz tv v).2++qfi l vs
 | _,_=>[]
def q31 (T:List AV):List (Nat×TV)→List (Nat×Nat)
 | []=>[]
 | (n,tv)::r=>quw tv (qlz tv (T.getD n .undef)).2++q31 T r
def qjw (j:Nat):List (Nat×Nat)→Option Nat
 | []=>none
 | p::r=>if Nat.beq j p.1 then some p.2 else qjw j r
def qdd (H:List Hs):Nat→List TB→List (Nat×Nat)→List (Nat×Nat)
 | _,[],acc=>acc
 | j,.cells l::bs,acc=>match qjw j acc with
  | some b=>match hget H b with
   | some (.cells vs)=>qdd H (j+1) bs (acc++qfi l vs)
   | _=>acc
  | none=>acc
 | j,.mix l _::bs,acc=>match qjw j acc with
  | some b=>match hget H b with
   | some (.mix vs _ _)=>qdd H (j+1) bs (acc++qfi l vs)
   | _=>acc
  | none=>acc
 | j,.view k::bs,acc=>match qjw j acc with
  | some b=>match H[b]? with
   | some (.view c _ _)=>qdd H (j+1) bs (acc++[(k,c)])
   | _=>acc
  | none=>acc
 | j,_::bs,acc=>qdd H (j+1) bs acc
def rhoL (acc:List (Nat×Nat)):Nat→List TB→List (Option Nat)
 | _,[]=>[]
 | j,_::bs=>qjw j acc::rhoL acc (j+1) bs
def isAt (ρ:List (Option Nat)) (j b:Nat):Bool:=match ρ[j]? with
 | some (some c)=>Nat.beq b c
 | _=>false
def isNo (ρ:List (Option Nat)) (j:Nat):Bool:=match ρ[j]? with
 | some none=>true
 | _=>false
def qe3 (H:List Hs):List (Option Nat)→List TB→List Nat
 | o::ρ,b::bs=>(match b with
  | .arr _ _=>match o with
   | some b=>match hget H b with
    | some (.arr t xs _)=>List.length (α:=Den t) xs
    | _=>0
   | none=>0
  | .nest _=>match o with
   | some b=>match hget H b with
    | some (.nest t rows _)=>List.length (α:=List (Den t)) rows
    | _=>0
   | none=>0
  | _=>0)::qe3 H ρ bs
 | _,_=>[]
def qb4 (ρ:List (Option Nat)) (H:List Hs) (lens:List Nat):TV→AV→Option (List Prop×List AV)
 | .u,x=>match x with
  | .nil=>none
  | .cons ..=>none
  | _=>some ([],[])
 | .v t,x=>match t with
  | .slice e=>match qfw e x with
   | some ys=>some ([],[.val (.slice e) ys])
   | none=>none
  | t=>match asD t x with
   | some y=>some ([],[.val t y])
   | none=>none
 | .sl j s i,x=>match x with
  | .sl b s' i' len c=>if isAt ρ j b=true∧s'=s∧i'=i then match c with
    | none=>some ([],[.val (.int .i64) ((len:Nat):Int)])
    | some c=>match hget H b with
     | some (.arr _ xs false)=>some ([c=xs.length-i],[.val (.int .i64) ((len:Nat):Int)])
     | _=>none
   else none
  | _=>none
 | .slf j s,x=>match x with
  | .sl b s' i' len c=>if isAt ρ j b=true∧s'=s∧i'=0 then match c with
    | none=>some ([len=nmAt lens j],[])
    | some c=>match hget H b with
     | some (.arr _ xs false)=>some ([len=nmAt lens j,c=xs.length],[])
     | _=>none
   else none
  | .vsl _ _ c=>if isNo ρ j=true∧c=0 then some ([0=nmAt lens j],[]) else none
  | _=>none
 | .ref j s i o,x=>match x with
  | .ref b s' i' o'=>if isAt ρ j b=true∧s'=s∧i'=i∧o'=o then some ([],[]) else none
  | _=>none
 | .mref j,x=>match x with
  | .mref b=>if isAt ρ j b=true then some ([],[]) else none
  | _=>none
 | .fn f c,x=>match x with
  | .fn g d=>if Nat.beq f g=true then qb4 ρ H lens c d else none
  | _=>none
 | .nil,x=>match x with
  | .nil=>some ([],[])
  | _=>none
 | .cons a l,x=>match x with
  | .cons y z=>match qb4 ρ H lens a (qlz a y).2,qb4 ρ H lens l z with
   | some (p,h),some (q,r)=>some ((qlz a y).1++(p++q),h++r)
   | _,_=>none
  | _=>none
 | .opt tv,x=>match x with
  | .opt b a=>match zdx a with
   | true=>some ([b=true],.val .bool true::q58 tv.ts)
   | false=>match qb4 ρ H lens tv (peel a).2 with
    | some (p,h)=>some ([b=false→allP ((peel a).1++p)],.val .bool b::h)
    | none=>none
  | a=>match nonN a,qb4 ρ H lens tv a with
   | some q,some (p,h)=>some (q::p,.val .bool false::h)
   | _,_=>none
def qfj (ρ:List (Option Nat)) (H:List Hs) (lens:List Nat):List TV→List AV→Option (List Prop×List AV)
 | [],[]=>some ([],[])
 | tv::l,v::vs=>match qb4 ρ H lens tv (qlz tv v).2,qfj ρ H lens l vs with
  | some (p,h),some (q,r)=>some ((qlz tv v).1++(p++q),h++r)
  | _,_=>none
 | _,_=>none
def qvf (ρ:List (Option Nat)) (H:List Hs) (lens:List Nat) (T:List AV):List (Nat×TV)→Option (List Prop×List AV)
 | []=>some ([],[])
 | (n,tv)::l=>match qb4 ρ H lens tv (qlz tv (T.getD n .undef)).2,qvf ρ H lens T l with
  | some (p,h),some (q,r)=>some ((qlz tv (T.getD n .undef)).1++(p++q),h++r)
  | _,_=>none
def qb9 (ρ:List (Option Nat)) (H:List Hs) (lens:List Nat):Option Nat→TB→Option (List Prop×List AV)
 | _,.dead=>some ([],[])
 | none,.arr t opn=>match opn with
  | true=>some ([],[.val (.slice t) ([]:List (Den t))])
  | false=>none
 | none,.nest t=>some ([],[.val (.slice (.slice t)) ([]:List (List (Den t)))])
 | none,_=>none
 | some b,.arr t opn=>match hget H b with
  | some (.arr t' xs o)=>match qda t' t xs with
   | some ys=>if o=opn∨opn=true then some ([],[.val (.slice t) ys]) else none
   | none=>none
  | _=>none
 | some b,.cells l=>match hget H b with
  | some (.cells vs)=>qfj ρ H lens l vs
  | _=>none
 | some b,.mix l t=>match hget H b with
  | some (.mix vs t' xs)=>match qda t' t xs,qfj ρ H lens l vs with
   | some ys,some (p,h)=>some (p,.val (.slice t) ys::h)
   | _,_=>none
  | _=>none
 | some b,.map k v=>match hget H b with
  | some (.map k' v' es)=>match qs8 k' v' k v es with
   | some es=>some ([],[.val (.map k v) es])
   | none=>none
  | _=>none
 | some b,.nest t=>match hget H b with
  | some (.nest t' rows none)=>match qda (.slice t') (.slice t) rows with
   | some ys=>some ([],[.val (.slice (.slice t)) ys])
   | none=>none
  | _=>none
 | some b,.view j=>match H[b]? with
  | some (.view c i false)=>match isAt ρ j c with
   | true=>match hget H c with
    | some (.nest t rows _)=>some ([i<List.length (α:=List (Den t)) rows],[.val (.int .i64) ((i:Nat):Int)])
    | _=>none
   | false=>none
  | _=>none
def qcc (ρ:List (Option Nat)) (H:List Hs) (lens:List Nat):List (Option Nat)→List TB→Option (List Prop×List AV)
 | [],[]=>some ([],[])
 | b::bs,tb::l=>match qb9 ρ H lens b tb,qcc ρ H lens bs l with
  | some (p,h),some (q,r)=>some (p++q,h++r)
  | _,_=>none
 | _,_=>none
def memO (x:Nat):List (Option Nat)→Bool
 | []=>false
 | some y::l=>Nat.beq x y || memO x l
 | none::l=>memO x l
def qik:List (Option Nat)→Bool
 | []=>true
 | some x::l=>!memO x l && qik l
 | none::l=>qik l
def qfs:List TB→List (Option Nat)→List (Option Nat)
 | .dead::bl,_::ρ=>none::qfs bl ρ
 | _::bl,o::ρ=>o::qfs bl ρ
 | [],_=>[]
 | _,[]=>[]
def qu7:Nat→Nat→List (Nat×Nat)
 | _,0=>[]
 | j,n+1=>(j,j)::qu7 (j+1) n
def idOk:Nat→Nat→List (Option Nat)→Bool
 | _,0,_=>true
 | j,n+1,some b::ρ=>Nat.beq b j && idOk (j+1) n ρ
 | _,_,_=>false
def qon:Nat→List Hs→Bool
 | 0,_=>true
 | _+1,.free::_=>false
 | k+1,_::H=>qon k H
 | _+1,[]=>false
def qtb (sl:List (Nat×TV)) (bl:List TB) (k:Nat) (S:St):Option (List Prop×List AV) :=
 match rhoL (qdd S.H 0 bl (qu7 0 k++q31 S.T sl)) 0 bl with
 | ρ=>match qik (qfs bl ρ) && (idOk 0 k ρ && qon k S.H) with
  | true=>match qe3 S.H ρ bl with
   | lens=>match qvf ρ S.H lens S.T sl,qcc ρ S.H lens ρ bl with
    | some (p,h),some (q,r)=>some (p++q,h++r)
    | _,_=>none
  | false=>none
section
variable {w:World} {Γ Γ':Cx}
theorem Rp.shift {w0:World} {Γ0:Cx} (hI:∀ b,Γ.I b→Γ'.I b) (hA:∀ b,Γ0.A b→Γ'.A b∧Γ'.ν b=Γ.ν b∧Γ'.κ b=Γ.κ b):∀ (a:AV) (us vs:List Value),Rp w0 Γ0 a us→Rp w Γ a vs→Rp w Γ' a vs
 | .undef,us,vs,_,h=>by simpa only [Rp] using h
 | .val t x,us,vs,_,h=>by
  simp only [Rp] at h ⊢;obtain ⟨v,e,h⟩:=h;exact ⟨v,e,h.mono hI (fun _ _=>rfl)⟩
 | .gd b a,us,vs,h0,h=>by
  simp only [Rp] at h0 h ⊢;exact ⟨h.1,fun hb=>Rp.shift hI hA a us vs (h0.2.1 hb) (h.2.1 hb),h.2.2⟩
 | .opt b a,us,vs,h0,h=>by
  simp only [Rp] at h0 h ⊢;exact ⟨h.1,h.2.1,fun hb=>⟨Rp.shift hI hA a us vs (h0.2.2 hb).1 (h.2.2 hb).1,(h.2.2 hb).2⟩⟩
 | .anyb pos P,us,vs,h0,h=>by simpa only [Rp] using h
 | .ref b s i o,us,vs,h0,h=>by
  simp only [Rp] at h0 h ⊢;obtain ⟨g1,g2,g3⟩:=hA b h0.1;exact ⟨g1,by rw [g2];exact h.2⟩
 | .sl b s i len c,us,vs,h0,h=>by
  simp only [Rp] at h0 h ⊢;obtain ⟨g1,g2,g3⟩:=hA b h0.1;exact ⟨g1,by rw [g2,g3];exact h.2⟩
 | .vsl t xs c,us,vs,_,h=>by
  simp only [Rp] at h ⊢;obtain ⟨ad,e1,e2,e3,e4⟩:=h;refine ⟨ad,e1,e2,e3,fun i x hx=>?_⟩
  obtain ⟨b,off,cs,k1,k2,k3,k4⟩:=e4 i x hx;exact ⟨b,off,cs,k1,hI b k2,RepC.mono hI (fun _ _=>rfl) t x cs k3,k4⟩
 | .mref b,us,vs,h0,h=>by
  simp only [Rp] at h0 h ⊢;obtain ⟨g1,g2,g3⟩:=hA b h0.1;exact ⟨g1,by rw [g2];exact h.2⟩
 | .fn f caps,us,vs,h0,h=>by
  simp only [Rp] at h0 h ⊢;obtain ⟨u0,_,h0⟩:=h0;obtain ⟨u,e,h⟩:=h;exact ⟨u,e,Rp.shift hI hA caps _ _ h0 h⟩
 | .tup l,us,vs,h0,h=>by
  simp only [Rp] at h0 h ⊢;obtain ⟨u0,_,h0⟩:=h0;obtain ⟨u,e,h⟩:=h;exact ⟨u,e,Rp.shift hI hA l _ _ h0 h⟩
 | .agg l,us,vs,h0,h=>by
  simp only [Rp] at h0 h ⊢;obtain ⟨u0,_,h0,_⟩:=h0;obtain ⟨u,e,h,ho⟩:=h;exact ⟨u,e,Rp.shift hI hA l _ _ h0 h,ho⟩
 | .nil,us,vs,_,h=>by simpa only [Rp] using h
 | .cons a l,us,vs,h0,h=>by
  simp only [Rp] at h0 h ⊢;obtain ⟨v0,u0,_,h1,h2⟩:=h0;obtain ⟨v,u,e,h3,h4⟩:=h;exact ⟨v,u,e,Rp.shift hI hA a _ _ h1 h3,Rp.shift hI hA l _ _ h2 h4⟩
def Cx.head (Γ:Cx) (len:Nat) (ρ:List (Option Nat)) (A0:Nat→Prop):Cx where
 I:=Γ.I
 A:=fun b=>A0 b∨(len≤b∧b<len+ρ.length)
 ν:=fun b=>if b<len then Γ.ν b else match ρ[b-len]? with
  | some (some c)=>Γ.ν c
  | _=>0
 κ:=fun b=>if b<len then Γ.κ b else match ρ[b-len]? with
  | some (some c)=>Γ.κ c
  | _=>0
 R:=fun b=>if b<len then Γ.R b else match ρ[b-len]? with
  | some (some c)=>Γ.R c
  | _=>fun _=>(0,0)
structure Nm (Γ Γ':Cx) (ρ:List (Option Nat)) (nm:List Nat):Prop where
 I:∀ b,Γ.I b→Γ'.I b
 so:∀ j b,ρ[j]?=some (some b)→Γ'.A (nmAt nm j)∧Γ'.ν (nmAt nm j)=Γ.ν b∧Γ'.κ (nmAt nm j)=Γ.κ b
 no:∀ j,ρ[j]?=some none→Γ'.A (nmAt nm j)∧Γ'.κ (nmAt nm j)=0
 rr:∀ j b,ρ[j]?=some (some b)→Γ'.R (nmAt nm j)=Γ.R b
 rn:∀ j,ρ[j]?=some none→∀ i,(Γ'.R (nmAt nm j) i).2=0
theorem qd4 {ρ:List (Option Nat)} {j b:Nat} (h:isAt ρ j b=true):ρ[j]?=some (some b):=by
 unfold isAt at h;split at h
 ·rename_i c hc;rw [hc];simp at h;rw [h]
 ·cases h
theorem q1f {ρ:List (Option Nat)} {j:Nat} (h:isNo ρ j=true):ρ[j]?=some none:=by
 unfold isNo at h;split at h
 ·rename_i hc;exact hc
 ·cases h
theorem qau:∀ {n a j:Nat},j<n→nmAt (qa3 a n) j=a+j
 | n+1,a,0,_=>rfl
 | n+1,a,j+1,h=>by
  simp only [qa3,nmAt];rw [qau (by omega)];omega
theorem qb6 {α:Type} {l:List α} {j:Nat} {x:α} (h:l[j]?=some x):j<l.length:=by
 rcases Nat.lt_or_ge j l.length with h' | h'
 ·exact h'
 ·rw [wac h'] at h;cases h
theorem Nm.head {len:Nat} {ρ:List (Option Nat)} {A0:Nat→Prop}:Nm Γ (Γ.head len ρ A0) ρ (qa3 len ρ.length) where
 I:=fun _ h=>h
 so:=fun j b h=>by
  have hj:=qb6 h;rw [qau hj];refine ⟨.inr ⟨Nat.le_add_right _ _,by omega⟩,?_,?_⟩ <;>
  ·simp only [Cx.head];rw [if_neg (by omega),Nat.add_sub_cancel_left,h]
 no:=fun j h=>by
  have hj:=qb6 h;rw [qau hj];refine ⟨.inr ⟨Nat.le_add_right _ _,by omega⟩,?_⟩
  simp only [Cx.head];rw [if_neg (by omega),Nat.add_sub_cancel_left,h]
 rr:=fun j b h=>by
  have hj:=qb6 h;rw [qau hj];simp only [Cx.head];rw [if_neg (by omega),Nat.add_sub_cancel_left,h]
 rn:=fun j h i=>by
  have hj:=qb6 h;rw [qau hj];simp only [Cx.head];rw [if_neg (by omega),Nat.add_sub_cancel_left,h]
theorem qzx {x:AV} {vs:List Value} (h:Rp w Γ x vs) (h1:x≠.nil) (h2:∀ a l,x≠.cons a l):∃ v,vs=[v]:=by
 cases x<;>simp only [Rp] at h
 ·exact h
 ·obtain ⟨v,e,_⟩:=h;exact ⟨v,e⟩
 ·exact h.1
 ·exact h.1
 ·obtain ⟨_,e,_⟩:=h;exact ⟨_,e⟩
 ·exact ⟨_,h.2⟩
 ·obtain ⟨_,_,_,e,_⟩:=h;exact ⟨_,e⟩
 ·obtain ⟨_,e,_⟩:=h;exact ⟨_,e⟩
 ·exact ⟨_,h.2⟩
 ·obtain ⟨_,e,_⟩:=h;exact ⟨_,e⟩
 ·obtain ⟨_,e,_⟩:=h;exact ⟨_,e⟩
 ·obtain ⟨_,e,_⟩:=h;exact ⟨_,e⟩
 ·exact absurd rfl h1
 ·exact absurd rfl (h2 _ _)
def qc5:List Ty→List AV→Prop
 | [],[]=>True
 | t::ts,x::xs=>(∃ y:Den t,x=.val t y)∧qc5 ts xs
 | _,_=>False
theorem qc5.app:∀ {ts us:List Ty} {xs ys:List AV},qc5 ts xs→qc5 us ys→qc5 (ts++us) (xs++ys)
 | [],_,[],_,_,h=>h
 | t::ts,us,x::xs,ys,h1,h2=>⟨h1.1,h1.2.app h2⟩
 | [],_,_::_,_,h,_=>h.elim
 | _::_,_,[],_,h,_=>h.elim
theorem qc5.length:∀ {ts:List Ty} {xs:List AV},qc5 ts xs→xs.length=ts.length
 | [],[],_=>rfl
 | t::ts,x::xs,h=>by simp [h.2.length]
 | [],_::_,h=>h.elim
 | _::_,[],h=>h.elim
theorem qc5.split:∀ {ts us:List Ty} {xs:List AV},qc5 (ts++us) xs→∃ ys zs,xs=ys++zs∧qc5 ts ys∧qc5 us zs
 | [],us,xs,h=>⟨[],xs,rfl,trivial,h⟩
 | t::ts,us,x::xs,h=>by
  obtain ⟨ys,zs,e,h1,h2⟩:=qc5.split (ts:=ts) h.2;exact ⟨x::ys,zs,by rw [e];rfl,⟨h.1,h1⟩,h2⟩
 | _::_,_,[],h=>h.elim
section
variable {ρ:List (Option Nat)} {H:List Hs} {lens:List Nat}
theorem qr0:∀ {ts:List Ty},qc5 ts (q58 ts)
 | []=>trivial
 | t::ts=>⟨⟨_,rfl⟩,qr0⟩
theorem qdy:∀ {tv:TV} {x:AV} {q:List Prop} {h:List AV},qb4 ρ H lens tv x=some (q,h)→qc5 tv.ts h
 | .u,x,q,h,hr=>by
  simp only [qb4] at hr;split at hr
  ·cases hr
  ·cases hr
  ·cases hr;trivial
 | .v t,x,q,h,hr=>by
  cases t<;>simp only [qb4] at hr<;>split at hr<;>first | (cases hr;exact ⟨⟨_,rfl⟩,trivial⟩) | cases hr
 | .sl j s i,x,q,h,hr=>by
  simp only [qb4] at hr;split at hr
  ·split at hr
   ·split at hr
    ·cases hr;exact ⟨⟨_,rfl⟩,trivial⟩
    ·split at hr
     ·cases hr;exact ⟨⟨_,rfl⟩,trivial⟩
     ·cases hr
   ·cases hr
  ·cases hr
 | .slf j s,x,q,h,hr=>by
  simp only [qb4] at hr;split at hr
  ·split at hr
   ·split at hr
    ·cases hr;trivial
    ·split at hr
     ·cases hr;trivial
     ·cases hr
   ·cases hr
  ·split at hr
   ·cases hr;trivial
   ·cases hr
  ·cases hr
 | .ref j s i o,x,q,h,hr=>by
  simp only [qb4] at hr;split at hr
  ·split at hr
   ·cases hr;trivial
   ·cases hr
  ·cases hr
 | .mref j,x,q,h,hr=>by
  simp only [qb4] at hr;split at hr
  ·split at hr
   ·cases hr;trivial
   ·cases hr
  ·cases hr
 | .fn f c,x,q,h,hr=>by
  simp only [qb4] at hr;split at hr
  ·split at hr
   ·exact qdy (tv:=c) hr
   ·cases hr
  ·cases hr
 | .nil,x,q,h,hr=>by
  simp only [qb4] at hr;split at hr
  ·cases hr;trivial
  ·cases hr
 | .cons a l,x,q,h,hr=>by
  simp only [qb4] at hr;split at hr
  ·split at hr
   ·rename_i e1 e2;cases hr;exact (qdy e1).app (qdy e2)
   ·cases hr
  ·cases hr
 | .opt tv,x,q,h,hr=>by
  simp only [qb4] at hr;split at hr
  ·split at hr
   ·cases hr;exact ⟨⟨_,rfl⟩,qr0⟩
   ·split at hr
    ·rename_i e1;cases hr;exact ⟨⟨_,rfl⟩,qdy e1⟩
    ·cases hr
  ·split at hr
   ·rename_i e1 e2;cases hr;exact ⟨⟨_,rfl⟩,qdy e2⟩
   ·cases hr
theorem qjn:∀ {l:List TV} {vs:List AV} {q:List Prop} {h:List AV},qfj ρ H lens l vs=some (q,h)→qc5 (l.flatMap TV.ts) h
 | [],[],q,h,hr=>by simp only [qfj,waz,wa1] at hr;obtain ⟨_,rfl⟩:=hr;trivial
 | tv::l,v::vs,q,h,hr=>by
  simp only [qfj] at hr;split at hr
  ·rename_i e1 e2;cases hr;rw [wbm];exact (qdy e1).app (qjn e2)
  ·cases hr
 | [],_::_,_,_,hr=>by simp [qfj] at hr
 | _::_,[],_,_,hr=>by simp [qfj] at hr
theorem qq6 {T:List AV}:∀ {l:List (Nat×TV)} {q:List Prop} {h:List AV},qvf ρ H lens T l=some (q,h)→qc5 (tsS l) h
 | [],q,h,hr=>by simp only [qvf,waz,wa1] at hr;obtain ⟨_,rfl⟩:=hr;trivial
 | (n,tv)::l,q,h,hr=>by
  simp only [qvf] at hr;split at hr
  ·rename_i e1 e2;cases hr;rw [tsS,wbm];exact (qdy e1).app (qq6 e2)
  ·cases hr
theorem qrh {b:Option Nat} {tb:TB} {q:List Prop} {h:List AV} (hr:qb9 ρ H lens b tb=some (q,h)):qc5 tb.ts h:=by
 cases tb with
 | dead=>cases b<;>(simp only [qb9] at hr;cases hr;trivial)
 | arr t opn =>
  cases b with
  | none =>
   simp only [qb9] at hr;split at hr
   ·cases hr;exact ⟨⟨_,rfl⟩,trivial⟩
   ·cases hr
  | some b =>
   simp only [qb9] at hr;split at hr
   ·split at hr
    ·split at hr
     ·cases hr;exact ⟨⟨_,rfl⟩,trivial⟩
     ·cases hr
    ·cases hr
   ·cases hr
 | cells l =>
  cases b with
  | none=>simp [qb9] at hr
  | some b =>
   simp only [qb9] at hr;split at hr
   ·exact qjn hr
   ·cases hr
 | map k v =>
  cases b with
  | none=>simp [qb9] at hr
  | some b =>
   simp only [qb9] at hr;split at hr
   ·split at hr
    ·cases hr;exact ⟨⟨_,rfl⟩,trivial⟩
    ·cases hr
   ·cases hr
 | nest t =>
  cases b with
  | none=>simp only [qb9] at hr;cases hr;exact ⟨⟨_,rfl⟩,trivial⟩
  | some b =>
   simp only [qb9] at hr;split at hr
   ·split at hr
    ·cases hr;exact ⟨⟨_,rfl⟩,trivial⟩
    ·cases hr
   ·cases hr
 | mix l t =>
  cases b with
  | none=>simp [qb9] at hr
  | some b =>
   simp only [qb9] at hr;split at hr
   ·split at hr
    ·rename_i e1 e2;cases hr;exact ⟨⟨_,rfl⟩,qjn e2⟩
    ·cases hr
   ·cases hr
 | view j =>
  cases b with
  | none=>simp [qb9] at hr
  | some b =>
   simp only [qb9] at hr;split at hr
   ·split at hr
    ·split at hr
     ·cases hr;exact ⟨⟨_,rfl⟩,trivial⟩
     ·cases hr
    ·cases hr
   ·cases hr
theorem qod:∀ {bs:List (Option Nat)} {l:List TB} {q:List Prop} {h:List AV},qcc ρ H lens bs l=some (q,h)→qc5 (tsB l) h
 | [],[],q,h,hr=>by simp only [qcc,waz,wa1] at hr;obtain ⟨_,rfl⟩:=hr;trivial
 | b::bs,tb::l,q,h,hr=>by
  simp only [qcc] at hr;split at hr
  ·rename_i e1 e2;cases hr;rw [tsB,wbm];exact (qrh e1).app (qod e2)
  ·cases hr
 | [],_::_,_,_,hr=>by simp [qcc] at hr
 | _::_,[],_,_,hr=>by simp [qcc] at hr
end
theorem qvu {sl:List (Nat×TV)} {bl:List TB} {k:Nat} {S:St} {q:List Prop} {h:List AV} (hr:qtb sl bl k S=some (q,h)):qc5 (tsS sl++tsB bl) h:=by
 simp only [qtb] at hr;split at hr
 ·split at hr
  ·rename_i e1 e2;cases hr;exact (qq6 e1).app (qod e2)
  ·cases hr
 ·cases hr
theorem q16 {sl:List (Nat×TV)} {bl:List TB} {k:Nat} {S:St} {q:List Prop} {h:List AV} (hr:qtb sl bl k S=some (q,h)):qon k S.H=true:=by
 simp only [qtb] at hr;split at hr
 ·rename_i hh;simp only [wa3] at hh;exact hh.2.2
 ·cases hr
theorem qbk {t:Ty} {ys:Den (.slice t)}:qi2 t (.val (.slice t) ys)=ys:=by
 show (qa9 (.slice t) (.slice t) ys).getD []=ys;rw [qcl];rfl
theorem qt5 {k v:Ty} {es:Den (.map k v)}:q7a k v (.val (.map k v) es)=es:=by
 show (qa9 (.map k v) (.map k v) es).getD []=es;rw [qcl];rfl
theorem qt9 {ρ:List (Option Nat)} {H:List Hs} {lens:List Nat}:∀ {bs:List (Option Nat)} {bl:List TB} {q:List Prop} {r:List AV} (rest:List AV),qcc ρ H lens bs bl=some (q,r)→qsj bl (r++rest)=qe3 H bs bl
 | [],[],q,r,rest,hr=>by simp only [qsj,qe3]
 | b::bs,tb::bl,q,r,rest,hr=>by
  simp only [qcc] at hr;split at hr
  ·rename_i p h q' r' e1 e2;cases hr;have hn:=(qrh e1).length.trans tb.n_eq;simp only [qsj,qe3,war,qc2 hn,qt9 rest e2];congr 1
   cases tb with
   | arr t opn =>
    cases b with
    | none =>
     simp only [qb9] at e1;split at e1
     ·cases e1;exact congrArg (List.length (α:=Den t)) (qbk (t:=t) (ys:=[]))
     ·cases e1
    | some b =>
     simp only [qb9] at e1;split at e1
     ·rename_i t' xs o hg;split at e1
      ·rename_i ys hy;split at e1
       ·cases e1;obtain ⟨e3,e4⟩:=qbx hy;subst e3;subst e4;simp only [hg];exact congrArg (List.length (α:=Den t')) (qbk (t:=t') (ys:=ys))
       ·cases e1
      ·cases e1
     ·cases e1
   | nest t =>
    cases b with
    | none =>
     simp only [qb9] at e1;cases e1;exact congrArg (List.length (α:=Den (.slice t))) (qbk (t:=.slice t) (ys:=[]))
    | some b =>
     simp only [qb9] at e1;split at e1
     ·rename_i t' rows hg;split at e1
      ·rename_i ys hy;cases e1;obtain ⟨e3,e4⟩:=qbx hy;cases e3;subst e4;simp only [hg];exact congrArg (List.length (α:=Den (.slice t))) (qbk (t:=.slice t) (ys:=ys))
      ·cases e1
     ·cases e1
   | _=>rfl
  ·cases hr
 | [],_::_,_,_,_,hr=>by simp [qcc] at hr
 | _::_,[],_,_,_,hr=>by simp [qcc] at hr
end
section
variable {w:World} {Γ Γ':Cx} {ρ:List (Option Nat)} {nm:List Nat} {H:List Hs} {lens:List Nat}
theorem qyi {e:Ty}:qfw e .nil=none:=rfl
theorem qva {e:Ty} {a l:AV}:qfw e (.cons a l)=none:=rfl
theorem zbp {e:Ty}:asD e .nil=none:=rfl
theorem q37 {e:Ty} {a l:AV}:asD e (.cons a l)=none:=rfl
theorem q9v:∀ {t:Ty} {x:AV} {q:List Prop} {h:List AV},qb4 ρ H lens (.v t) x=some (q,h)→∀ {vs:List Value},Rp w Γ x vs→∃ (y:Den t) (v:Value),h=[.val t y]∧vs=[v]∧RepV w Γ.I t y v:=by
 intro t x q h hr vs hx;have hsl:∀ e (ys:List (Den e)),qfw e x=some ys→∃ v,vs=[v]∧RepV w Γ.I (.slice e) ys v:=fun e ys hy=>by
  have:∃ v,vs=[v]:=qzx hx (fun e=>by rw [e,qyi] at hy;cases hy) (fun a l e=>by rw [e,qva] at hy;cases hy)
  obtain ⟨v,rfl⟩:=this;obtain ⟨ad,cap,h1,h2,h3,h4⟩:=qhb hy hx;exact ⟨v,rfl,qb0.2 ⟨ad,cap,h1,h2,h3,h4⟩⟩
 have hot:∀ (y:Den t),asD t x=some y→∃ v,vs=[v]∧RepV w Γ.I t y v:=fun y hy=>by
  have:∃ v,vs=[v]:=qzx hx (fun e=>by rw [e,zbp] at hy;cases hy) (fun a l e=>by rw [e,q37] at hy;cases hy)
  obtain ⟨v,rfl⟩:=this;exact ⟨v,rfl,qeb hy hx⟩
 cases t with
 | slice e =>
  simp only [qb4] at hr;split at hr
  ·rename_i ys hy;cases hr;obtain ⟨v,h1,h2⟩:=hsl e ys hy;exact ⟨ys,v,rfl,h1,h2⟩
  ·cases hr
 | _ =>
  simp only [qb4] at hr;split at hr
  ·rename_i y hy;cases hr;obtain ⟨v,h1,h2⟩:=hot y hy;exact ⟨y,v,rfl,h1,h2⟩
  ·cases hr
theorem qi5 {tv:TV} {x:AV} {v:Value} (h:Ra w Γ x v) (hp:allP (qlz tv x).1):Ra w Γ (qlz tv x).2 v:=by
 unfold qlz at hp ⊢;split
 ·exact qiw h hp
 ·rename_i hn;split at hp
  ·exact absurd rfl (hn _)
  ·exact qah h hp
theorem q7z {b:Bool} {a:AV} {vs:List Value} (h1:∃ v,vs=[v]) (h2:b=true→vs=[.slice none 0 0]) (h3:b=false→Rp w Γ a vs∧∃ ad n c,vs=[.slice (some ad) n c]):Rp w Γ (.opt b a) vs:=by
 simp only [Rp];exact ⟨h1,h2,h3⟩
theorem zcf {b:Bool} {a:AV} {vs:List Value} (h:Rp w Γ (.opt b a) vs):(∃ v,vs=[v])∧(b=true→vs=[.slice none 0 0])∧(b=false→Rp w Γ a vs∧∃ ad n c,vs=[.slice (some ad) n c]):=by
 simpa only [Rp] using h
theorem zdj {a:AV} {vs:List Value} (h:vs=[.slice none 0 0]):Rp w Γ (.opt true a) vs:=by
 simp only [Rp];exact ⟨⟨_,h⟩,fun _=>h,fun h=>Bool.noConfusion h⟩
theorem zce {a:AV} {vs:List Value} (h:Rp w Γ a vs) (h2:∃ ad n c,vs=[.slice (some ad) n c]):Rp w Γ (.opt false a) vs:=by
 simp only [Rp];obtain ⟨ad,n,c,e⟩:=h2;exact ⟨⟨_,e⟩,fun h=>Bool.noConfusion h,fun _=>⟨h,ad,n,c,e⟩⟩
theorem qx3 {x:AV} {q:Prop} {vs:List Value} (h:nonN x=some q) (hq:q) (hx:Rp w Γ x vs):∃ ad n c,vs=[.slice (some ad) n c]:=by
 have key:∀ (ad:Option Addr) (n c:Nat),n≠0→n≤c→(ad=none→c=0)→∃ ad' n' c',([Value.slice ad n c]:List Value)=[.slice (some ad') n' c']:=fun ad n c h1 h2 h3=>by
  cases ad with
  | some ad=>exact ⟨_,_,_,rfl⟩
  | none=>have:=h3 rfl;omega
 cases x with
 | sl b s i len c =>
  simp only [nonN,waz] at h;subst h;simp only [Rp] at hx;obtain ⟨_,ad,cap,rfl,_,h3,h4⟩:=hx;refine key ad len cap hq h4 fun e=>?_
  rcases Nat.eq_zero_or_pos cap with h0 | h0
  ·exact h0
  ·have:=h3 (by omega);rw [e] at this;cases this
 | vsl t xs c =>
  simp only [nonN,waz] at h;subst h;simp only [Rp] at hx;obtain ⟨ad,rfl,h1,h2,_⟩:=hx;exact key ad _ c hq h1 h2
 | val t y =>
  cases t with
  | slice e =>
   simp only [nonN,waz] at h;subst h;obtain ⟨v,rfl,hv⟩:=(by simpa only [Rp] using hx:∃ v,vs=[v]∧RepV w Γ.I (.slice e) y v)
   obtain ⟨cs,hc,rfl⟩:=hv;simp only [RepC] at hc;obtain ⟨ad,cap,rfl,h1,h2,_⟩:=hc;simpa [mkV,isAgg] using key ad _ cap hq h1 h2
  | _=>simp [nonN] at h
 | _=>simp [nonN] at h
theorem qdg (em:∀ b B,H[b]?=some (.live B)→RepB w Γ b B) (hn:Nm Γ Γ' ρ nm):∀ {tv:TV} {x:AV} {q:List Prop} {h:List AV},qb4 ρ H lens tv x=some (q,h)→allP q →
  ∀ {vs:List Value},Rp w Γ x vs→∀ rest,Rp w Γ' (qdh nm lens tv (h++rest)) vs
 | .u,x,q,h,hr,hq,vs,hx,rest=>by
  have h1:x≠.nil:=fun e=>by subst e;simp [qb4] at hr
  have h2:∀ a l,x≠.cons a l:=fun a l e=>by subst e;simp [qb4] at hr
  obtain ⟨v,e⟩:=qzx hx h1 h2;simp only [qdh,Rp];exact ⟨v,e⟩
 | .v t,x,q,h,hr,hq,vs,hx,rest=>by
  obtain ⟨y,v,e1,e2,hy⟩:=q9v hr hx;subst e1;simp only [qdh,wbc,List.headD_cons,Rp];exact ⟨v,e2,hy.mono hn.I (fun _ _=>rfl)⟩
 | .sl j s i,x,q,h,hr,hq,vs,hx,rest=>by
  simp only [qb4] at hr;split at hr
  ·rename_i b s' i' len c;split at hr
   ·rename_i hh;obtain ⟨h1,h2,h3⟩:=hh;subst h2;subst h3;obtain ⟨g1,g2,g3⟩:=hn.so _ _ (qd4 h1);split at hr
    ·cases hr;show Rp w Γ' (.sl (nmAt nm j) s' i' ((len:Int)).toNat none) vs;rw [Int.toNat_natCast];simp only [Rp] at hx ⊢;obtain ⟨_,ad,cap,k1,k2,k3,k4⟩:=hx;exact ⟨g1,ad,cap,k1,by rw [g3];exact k2,by rw [g2];exact k3,k4⟩
    ·split at hr
     ·rename_i c t xs hg;cases hr;have hc:=allP_one.1 hq;have hB:=em b _ (qaw hg);simp only [RepB] at hB;have hk:=hB.2.1 trivial;show Rp w Γ' (.sl (nmAt nm j) s' i' ((len:Int)).toNat none) vs;rw [Int.toNat_natCast];simp only [Rp] at hx ⊢;obtain ⟨_,ad,cap,k1,k2,k3,k4⟩:=hx;refine ⟨g1,ad,cap,k1,?_,by rw [g2];exact k3,k4⟩
      rw [g3,k2,Option.getD_some,Option.getD_none,hc,hk]
     ·cases hr
   ·cases hr
  ·cases hr
 | .slf j s,x,q,h,hr,hq,vs,hx,rest=>by
  simp only [qb4] at hr;split at hr
  ·rename_i b s' i' len c;split at hr
   ·rename_i hh;obtain ⟨h1,h2,h3⟩:=hh;subst h2;subst h3;obtain ⟨g1,g2,g3⟩:=hn.so _ _ (qd4 h1);split at hr
    ·cases hr;have he:=allP_one.1 hq;simp only [qdh];rw [← he];simp only [Rp] at hx ⊢;obtain ⟨_,ad,cap,k1,k2,k3,k4⟩:=hx;exact ⟨g1,ad,cap,k1,by rw [g3];exact k2,by rw [g2];exact k3,k4⟩
    ·split at hr
     ·rename_i c t xs hg;cases hr;obtain ⟨he,hc⟩:=qa0.1 hq;have hc:=allP_one.1 hc;have hB:=em b _ (qaw hg);simp only [RepB] at hB;have hk:=hB.2.1 trivial;simp only [qdh];rw [← he];simp only [Rp] at hx ⊢;obtain ⟨_,ad,cap,k1,k2,k3,k4⟩:=hx;refine ⟨g1,ad,cap,k1,?_,by rw [g2];exact k3,k4⟩
      rw [g3,k2];simp only [Option.getD_some,Option.getD_none,Nat.sub_zero];omega
     ·cases hr
   ·cases hr
  ·rename_i t xs c;split at hr
   ·rename_i hh;obtain ⟨h1,h2⟩:=hh;subst h2;obtain ⟨g1,g3⟩:=hn.no _ (q1f h1);cases hr;have he:=allP_one.1 hq;simp only [qdh];rw [← he];simp only [Rp] at hx ⊢;obtain ⟨ad,k1,k2,k3,k4⟩:=hx;have hl:xs.length=0:=by omega
    rw [hl] at k1;exact ⟨g1,ad,0,k1,by rw [g3];rfl,fun h=>absurd rfl h,wad _⟩
   ·cases hr
  ·cases hr
 | .ref j s i o,x,q,h,hr,hq,vs,hx,rest=>by
  simp only [qb4] at hr;split at hr
  ·split at hr
   ·rename_i hh;obtain ⟨h1,rfl,rfl,rfl⟩:=hh;obtain ⟨g1,g2,g3⟩:=hn.so _ _ (qd4 h1);cases hr;simp only [qdh,Rp] at hx ⊢;exact ⟨g1,by rw [g2];exact hx.2⟩
   ·cases hr
  ·cases hr
 | .mref j,x,q,h,hr,hq,vs,hx,rest=>by
  simp only [qb4] at hr;split at hr
  ·split at hr
   ·rename_i h1;obtain ⟨g1,g2,g3⟩:=hn.so _ _ (qd4 h1);cases hr;simp only [qdh,Rp] at hx ⊢;exact ⟨g1,by rw [g2];exact hx.2⟩
   ·cases hr
  ·cases hr
 | .fn f c,x,q,h,hr,hq,vs,hx,rest=>by
  simp only [qb4] at hr;split at hr
  ·rename_i g d;split at hr
   ·rename_i hf;have hf:f=g:=by simpa using hf
    subst hf;simp only [qdh,Rp] at hx ⊢;obtain ⟨us,e,hx⟩:=hx;exact ⟨us,e,qdg em hn hr hq hx rest⟩
   ·cases hr
  ·cases hr
 | .nil,x,q,h,hr,hq,vs,hx,rest=>by
  simp only [qb4] at hr;split at hr
  ·simp only [qdh,Rp] at hx ⊢;exact hx
  ·cases hr
 | .cons a l,x,q,h,hr,hq,vs,hx,rest=>by
  simp only [qb4] at hr;split at hr
  ·rename_i y z;split at hr
   ·rename_i p h1 q' r e1 e2;cases hr;obtain ⟨q1,q2⟩:=qag.1 hq;obtain ⟨q2,q3⟩:=qag.1 q2;simp only [Rp] at hx;obtain ⟨v,us,e,k1,k2⟩:=hx;have k1':Ra w Γ y v:=k1;have n1:h1.length=a.n:=(qdy e1).length.trans a.n_eq;simp only [qdh,Rp,war,qc2 n1];exact ⟨v,us,e,qdg em hn e1 q2 (qi5 k1' q1) _,qdg em hn e2 q3 k2 _⟩
   ·cases hr
  ·cases hr
 | .opt tv,x,q,h,hr,hq,vs,hx,rest=>by
  simp only [qb4] at hr;split at hr
  ·rename_i b a;have hx:=zcf hx;split at hr
   ·cases hr;have hb:b=true:=allP_one.1 hq;exact zdj (hx.2.1 hb)
   ·split at hr
    ·rename_i p h' e1;cases hr;have hq:=allP_one.1 hq;refine q7z (a:=qdh nm lens tv (h'++rest)) hx.1 hx.2.1 fun hb=>⟨?_,(hx.2.2 hb).2⟩
     obtain ⟨q1,q2⟩:=qag.1 (hq hb);obtain ⟨v,rfl⟩:=hx.1;exact qdg em hn e1 q2 (qah (hx.2.2 hb).1 q1) rest
    ·cases hr
  ·split at hr
   ·rename_i q' p h' e1 e2;cases hr;obtain ⟨q1,q2⟩:=qa0.1 hq;obtain ⟨ad,n,c,hv⟩:=qx3 e1 q1 hx;have ih:=qdg em hn e2 q2 hx rest;exact zce ih ⟨ad,n,c,hv⟩
   ·cases hr
theorem qgf (em:∀ b B,H[b]?=some (.live B)→RepB w Γ b B) (hn:Nm Γ Γ' ρ nm):∀ {l:List TV} {vs:List AV} {q:List Prop} {h:List AV} (rest:List AV),qfj ρ H lens l vs=some (q,h)→allP q →
  (qfl nm lens l (h++rest)).length=vs.length∧∀ (i:Nat) (x:AV),(qfl nm lens l (h++rest))[i]?=some x→∃ y,vs[i]?=some y∧∀ v,Ra w Γ y v→Ra w Γ' x v
 | [],[],q,h,rest,hr,_=>⟨rfl,fun i x hx=>by simp [qfl] at hx⟩
 | tv::l,v::vs,q,h,rest,hr,hq=>by
  simp only [qfj] at hr;split at hr
  ·rename_i p h1 q' r e1 e2;cases hr;obtain ⟨hq1,hq2⟩:=qag.1 hq;obtain ⟨hq2,hq3⟩:=qag.1 hq2;have hl:h1.length=tv.n:=(qdy e1).length.trans tv.n_eq;obtain ⟨k1,k2⟩:=qgf em hn rest e2 hq3;simp only [qfl,war,qc2 hl];refine ⟨by simp [k1],fun i x hx=>?_⟩
   cases i with
   | zero =>
    simp only [wa6,waz] at hx;subst hx;exact ⟨v,rfl,fun u hu=>qdg em hn e1 hq2 (qi5 hu hq1) (r++rest)⟩
   | succ i =>
    simp only [wa4] at hx ⊢;exact k2 i x hx
  ·cases hr
 | [],_::_,_,_,_,hr,_=>by simp [qfj] at hr
 | _::_,[],_,_,_,hr,_=>by simp [qfj] at hr
theorem qum (em:∀ b B,H[b]?=some (.live B)→RepB w Γ b B) (hn:Nm Γ Γ' ρ nm) {l:List TV} {xs:List AV} {q:List Prop} {h:List AV} (rest:List AV) (hr:qfj ρ H lens l xs=some (q,h)) (hq:allP q) {vs:List Value} (hf:Fa w Γ xs vs) :
  Fa w Γ' (qfl nm lens l (h++rest)) vs:=by
 obtain ⟨k1,k2⟩:=qgf em hn rest hr hq;refine Fa.of_get (by rw [k1,hf.length]) fun i x hx=>?_
 obtain ⟨y,hy,hm⟩:=k2 i x hx;obtain ⟨v,hv,hr⟩:=hf.get i y hy;exact ⟨v,hv,hm v hr⟩
theorem qj7 {o:Option Nat} {tb:TB} {p:List Prop} {h:List AV} {ρ:List (Option Nat)} {H:List Hs} {lens:List Nat} {nm:List Nat} (hr:qb9 ρ H lens o tb=some (p,h)) (rest:List AV)
  {t:Ty} {rows:List (List (Den t))} {ho:Option (Nat×Nat)} (hB:qc4 nm lens (h++rest) tb=.live (.nest t rows ho)):∀ c,o=some c→Nest H c:=by
 cases tb with
 | nest t' =>
  intro c hc;subst hc;simp only [qb9] at hr;split at hr
  ·rename_i hg;exact ⟨_,_,_,qaw hg⟩
  ·cases hr
 | _=>simp only [qc4] at hB;cases hB
theorem qi3 (em:∀ b B,H[b]?=some (.live B)→RepB w Γ b B) (hn:Nm Γ Γ' ρ nm) {j:Nat} {o:Option Nat} (hj:ρ[j]?=some o) {tb:TB} {p:List Prop} {h:List AV} (hr:qb9 ρ H lens o tb=some (p,h)) (hp:allP p) (rest:List AV)
  {B:Blk} (hB:qc4 nm lens (h++rest) tb=.live B) :
  (∀ b,o=some b→Live H b)∧RepB w Γ' (nmAt nm j) B:=by
 cases tb with
 | dead=>simp only [qc4] at hB;cases hB
 | view k=>simp only [qc4] at hB;cases hB
 | arr t opn =>
  cases o with
  | none =>
   obtain ⟨g1,g3⟩:=hn.no _ hj;simp only [qb9] at hr;split at hr
   ·cases hr;refine ⟨fun b h=>(nomatch h),?_⟩
    have he:qc4 nm lens ([AV.val (.slice t) ([]:List (Den t))]++rest) (.arr t true)=.live (.arr t [] true):=congrArg (fun l=>Hs.live (Blk.arr t l true)) qbk
    rw [he] at hB;cases hB;simp only [RepB];exact ⟨Nat.zero_le _,(fun h=>by cases h),fun hk=>absurd g3 hk⟩
   ·cases hr
  | some b =>
   obtain ⟨g1,g2,g3⟩:=hn.so _ _ hj;simp only [qb9] at hr;split at hr
   ·rename_i t' xs o hg;split at hr
    ·rename_i ys hy;split at hr
     ·rename_i ho;cases hr;obtain ⟨e1,e2⟩:=qbx hy;subst e1;subst e2;have hb:=em b _ (qaw hg);refine ⟨fun b' h=>by cases h;exact ⟨_,qaw hg⟩,?_⟩
      have he:qc4 nm lens ([.val (.slice t') ys]++rest) (.arr t' opn)=.live (.arr t' ys opn):=congrArg (fun l=>Hs.live (Blk.arr t' l opn)) qbk
      rw [he] at hB;cases hB;simp only [RepB] at hb ⊢;rw [g2,g3];obtain ⟨b1,b2,b3⟩:=hb;refine ⟨b1,fun h=>?_,fun hk=>?_⟩
      ·rcases ho with ho | ho
       ·subst ho;exact b2 h
       ·rw [ho] at h;cases h
      ·obtain ⟨c,el,q1,q2,q3⟩:=b3 hk;exact ⟨c,el,q1,q2,fun i x hx=>by
        obtain ⟨cs,m1,m2⟩:=q3 i x hx;exact ⟨cs,RepC.mono hn.I (fun _ _=>rfl) t' x cs m1,m2⟩⟩
     ·cases hr
    ·cases hr
   ·cases hr
 | cells l =>
  cases o with
  | none=>simp [qb9] at hr
  | some b =>
   obtain ⟨g1,g2,g3⟩:=hn.so _ _ hj;simp only [qb9] at hr;split at hr
   ·rename_i vs hg;have hb:=em b _ (qaw hg);refine ⟨fun b' h=>by cases h;exact ⟨_,qaw hg⟩,?_⟩
    obtain ⟨k1,k2⟩:=qgf (w:=w) em hn rest hr hp;simp only [qc4,Hs.live.injEq] at hB;subst hB;simp only [RepB] at hb ⊢;obtain ⟨hk0,c,el,h1,h2,h3⟩:=hb;refine ⟨by rw [g3];exact hk0,c,el,by rw [g2];exact h1,by rw [k1];exact h2,fun i x hx=>?_⟩
    obtain ⟨y,hy,hm⟩:=k2 i x hx;obtain ⟨v,q1,q2,q3⟩:=h3 i y hy;exact ⟨v,q1,q2,hm v q3⟩
   ·cases hr
 | mix l t =>
  cases o with
  | none=>simp [qb9] at hr
  | some b =>
   obtain ⟨g1,g2,g3⟩:=hn.so _ _ hj;simp only [qb9] at hr;split at hr
   ·rename_i vs t' xs hg;split at hr
    ·rename_i ys p' h' hy hc;cases hr;obtain ⟨e1,e2⟩:=qbx hy;subst e1;subst e2;have hb:=em b _ (qaw hg);refine ⟨fun b' h=>by cases h;exact ⟨_,qaw hg⟩,?_⟩
     obtain ⟨k1,k2⟩:=qgf (w:=w) em hn rest hc hp;have he:qc4 nm lens ((.val (.slice t') ys::h')++rest) (.mix l t')=.live (.mix (qfl nm lens l (h'++rest)) t' ys):=congrArg (fun z=>Hs.live (Blk.mix (qfl nm lens l (h'++rest)) t' z)) (qbk (t:=t'))
     have he2:=he.symm.trans hB;cases he2;obtain ⟨ha,hb⟩:=qd0.1 hb;refine qd0.2 ⟨ha,?_⟩;simp only [RepB] at hb ⊢;obtain ⟨hk0,c,el,h1,h2,h3⟩:=hb;refine ⟨by rw [g3];exact hk0,c,el,by rw [g2];exact h1,by rw [h2];simp [mixL,k1],fun i x hx=>?_⟩
     unfold mixL at hx h3
     rcases Nat.lt_or_ge i vs.length with hi | hi
     ·rw [waf (by omega)] at hx
      obtain ⟨y,hy,hm⟩:=k2 i x hx;obtain ⟨v,q1,q2,q3⟩:=h3 i y (by rw [waf hi];exact hy)
      exact ⟨v,q1,q2,hm v q3⟩
     ·rw [wag (by omega),k1] at hx
      obtain ⟨v,q1,q2,q3⟩:=h3 i x (by rw [wag hi];exact hx)
      rw [wao] at hx
      cases hz:ys[i-vs.length]? with
      | none=>rw [hz] at hx;cases hx
      | some z =>
       rw [hz] at hx;cases hx;exact ⟨v,q1,q2,Ra_val.2 ((Ra_val.1 q3).mono hn.I (fun _ _=>rfl))⟩
    ·cases hr
   ·cases hr
 | map k v =>
  cases o with
  | none=>simp [qb9] at hr
  | some b =>
   obtain ⟨g1,g2,g3⟩:=hn.so _ _ hj;simp only [qb9] at hr;split at hr
   ·rename_i k' v' es hg;split at hr
    ·rename_i es' he;cases hr;obtain ⟨e1,e2⟩:=qat he;cases e1;subst e2;have hb:=em b _ (qaw hg);refine ⟨fun b' h=>by cases h;exact ⟨_,qaw hg⟩,?_⟩
     have he:qc4 nm lens ([.val (.map k v) es']++rest) (.map k v)=.live (.map k v es'):=congrArg (fun l=>Hs.live (Blk.map k v l)) qt5
     rw [he] at hB;cases hB;simp only [RepB] at hb ⊢;rw [g2,g3];obtain ⟨b0,ents,cl,b1,b2,b3⟩:=hb;exact ⟨b0,ents,cl,b1,b2,fun i e he=>by
      obtain ⟨ent,ck,cv,m1,m2,m3,m4,m5⟩:=b3 i e he;exact ⟨ent,ck,cv,m1,RepC.mono hn.I (fun _ _=>rfl) k _ _ m2,m3,RepC.mono hn.I (fun _ _=>rfl) v _ _ m4,m5⟩⟩
    ·cases hr
   ·cases hr
 | nest t =>
  cases o with
  | none =>
   obtain ⟨g1,g3⟩:=hn.no _ hj;simp only [qb9] at hr;cases hr;refine ⟨fun b h=>(nomatch h),?_⟩
   have he:qc4 nm lens ([AV.val (.slice (.slice t)) ([]:List (Den (.slice t)))]++rest) (.nest t)=.live (.nest t [] none):=congrArg (fun l=>Hs.live (Blk.nest t l none)) (qbk (t:=.slice t))
   have he2:=he.symm.trans hB;cases he2;simp only [RepB];exact ⟨Nat.zero_le _,fun hk=>absurd g3 hk⟩
  | some b =>
   obtain ⟨g1,g2,g3⟩:=hn.so _ _ hj;simp only [qb9] at hr;split at hr
   ·rename_i t' rows hg;split at hr
    ·rename_i ys hy;cases hr;obtain ⟨e1,e2⟩:=qbx hy;cases e1;subst e2;have hb:=em b _ (qaw hg);refine ⟨fun b' h=>by cases h;exact ⟨_,qaw hg⟩,?_⟩
     have he:qc4 nm lens ([.val (.slice (.slice t)) ys]++rest) (.nest t)=.live (.nest t ys none):=congrArg (fun l=>Hs.live (Blk.nest t l none)) (qbk (t:=.slice t))
     have he2:=he.symm.trans hB;cases he2;have hR:=hn.rr _ _ hj;simp only [RepB] at hb ⊢;rw [g2,g3,hR];obtain ⟨b1,b2⟩:=hb;refine ⟨b1,fun hk=>?_⟩
     obtain ⟨c,el,q1,q2,q3⟩:=b2 hk;exact ⟨c,el,q1,q2,fun i r hr=>by
      obtain ⟨m1,m2⟩:=q3 i r hr;exact ⟨m1.mono hn.I (fun _ _=>rfl) (fun _=>rfl),m2⟩⟩
    ·cases hr
   ·cases hr
theorem qt4 {ρ:List (Option Nat)} {H:List Hs} {lens:List Nat} {o:Option Nat} {k:Nat} {p:List Prop} {h:List AV} (hr:qb9 ρ H lens o (.view k)=some (p,h)) :
  ∃ (c d i:Nat) (t:Ty) (rows:List (List (Den t))) (ho:Option (Nat×Nat)),o=some c∧H[c]?=some (.view d i false)∧isAt ρ k d=true∧hget H d=some (.nest t rows ho)∧p=[i<rows.length]∧h=[.val (.int .i64) ((i:Nat):Int)]:=by
 cases o with
 | none=>simp [qb9] at hr
 | some c =>
  simp only [qb9] at hr
  cases hc:H[c]? with
  | none=>rw [hc] at hr;cases hr
  | some x =>
   rw [hc] at hr
   cases x with
   | view d i f =>
    cases f with
    | true=>cases hr
    | false =>
     simp only at hr
     cases ha:isAt ρ k d with
     | false=>rw [ha] at hr;cases hr
     | true =>
      rw [ha] at hr;simp only at hr
      cases hg:hget H d with
      | none=>rw [hg] at hr;cases hr
      | some B =>
       rw [hg] at hr
       cases B with
       | nest t rows ho =>
        simp only [waz,wa1] at hr;exact ⟨c,d,i,t,rows,ho,rfl,hc,ha,hg,hr.1.symm,hr.2.symm⟩
       | _=>cases hr
   | _=>cases hr
theorem qpr (em:EmbH Γ H w) (hn:Nm Γ Γ' ρ nm) {j:Nat} {o:Option Nat} (hj:ρ[j]?=some o) {tb:TB} {p:List Prop} {h:List AV} (hr:qb9 ρ H lens o tb=some (p,h)) (hp:allP p) (rest:List AV)
  {b i:Nat} {f:Bool} (hB:qc4 nm lens (h++rest) tb=.view b i f):Γ'.A b∧Γ'.κ (nmAt nm j)=(Γ'.R b i).2∧(Γ'.κ (nmAt nm j)≠0→Γ'.ν (nmAt nm j)=(Γ'.R b i).1):=by
 cases tb with
 | view k =>
  obtain ⟨c,d,i',t,rows,ho,rfl,hd,hat,hg,rfl,rfl⟩:=qt4 hr;have he:qc4 nm lens ([AV.val (.int .i64) ((i':Nat):Int)]++rest) (.view k)=.view (nmAt nm k) i' false:=rfl;have hB:=he.symm.trans hB;cases hB;have hk:=qd4 hat;obtain ⟨g1,g2,g3⟩:=hn.so _ _ hk;obtain ⟨f1,f2,f3⟩:=hn.so _ _ hj;obtain ⟨v1,v2⟩:=(em.vw c d _ false hd).2 t rows ho (qaw hg) (allP_one.1 hp);have hR:=hn.rr _ _ hk;rw [f2,f3,hR];exact ⟨g1,v1,v2⟩
 | dead=>simp only [qc4] at hB;cases hB
 | arr t opn=>simp only [qc4] at hB;cases hB
 | cells l=>simp only [qc4] at hB;cases hB
 | mix l t=>simp only [qc4] at hB;cases hB
 | map k v=>simp only [qc4] at hB;cases hB
 | nest t=>simp only [qc4] at hB;cases hB
theorem qby:∀ {bl:List TB} {env:List AV},(qbg nm lens bl env).length=bl.length
 | [],_=>rfl
 | b::bl,env=>by simp [qbg,qby (bl:=bl)]
theorem qel:∀ {bl:List TB} {env:List AV} {j:Nat} {x:Hs},(qbg nm lens bl env)[j]?=some x→x≠.free
 | [],_,_,_,h=>by simp [qbg] at h
 | b::bl,env,0,x,h=>by
  simp only [qbg,wa6,waz] at h;subst h;cases b<;>simp [qc4]
 | b::bl,env,j+1,x,h=>by simp only [qbg,wa4] at h;exact qel h
theorem qh9:∀ {bs:List (Option Nat)} {bl:List TB} {q:List Prop} {r:List AV} (rest:List AV),qcc ρ H lens bs bl=some (q,r)→allP q →
  bs.length=bl.length∧∀ (j:Nat) (x:Hs),(qbg nm lens bl (r++rest))[j]?=some x→∃ o tb p h rest',bs[j]?=some o∧qb9 ρ H lens o tb=some (p,h)∧allP p∧x=qc4 nm lens (h++rest') tb
 | [],[],q,r,rest,hr,_=>⟨rfl,fun j B hB=>by simp [qbg] at hB⟩
 | b::bs,tb::bl,q,r,rest,hr,hq=>by
  simp only [qcc] at hr;split at hr
  ·rename_i p h q' r' e1 e2;cases hr;obtain ⟨hq1,hq2⟩:=qag.1 hq;obtain ⟨k1,k2⟩:=qh9 rest e2 hq2;refine ⟨by simp [k1],fun j B hB=>?_⟩
   simp only [qbg,war,qc2 ((qrh e1).length.trans tb.n_eq)] at hB
   cases j with
   | zero =>
    simp only [wa6,waz] at hB;exact ⟨b,tb,p,h,r'++rest,rfl,e1,hq1,hB.symm⟩
   | succ j =>
    simp only [wa4] at hB ⊢;exact k2 j B hB
  ·cases hr
 | [],_::_,_,_,_,hr,_=>by simp [qcc] at hr
 | _::_,[],_,_,_,hr,_=>by simp [qcc] at hr
theorem qd3:∀ {H:List Hs},(qeq H).length=H.length
 | []=>rfl
 | .live _::H=>by simp [qeq,qd3 (H:=H)]
 | .view ..::H=>by simp [qeq,qd3 (H:=H)]
 | .dead::H=>by simp [qeq,qd3 (H:=H)]
 | .free::H=>by simp [qeq,qd3 (H:=H)]
theorem qd8:∀ {H:List Hs} {b:Nat} {x:Hs},(qeq H)[b]?=some x→((∀ B,x≠.live B)∧∀ c i f,x≠.view c i f)∧(x≠.free↔∃ h,H[b]?=some h∧h≠.free)
 | [],_,_,h=>by simp [qeq] at h
 | .live B::H,0,x,h=>by simp only [qeq,wa6,waz] at h;subst h;simp
 | .view ..::H,0,x,h=>by simp only [qeq,wa6,waz] at h;subst h;simp
 | .dead::H,0,x,h=>by simp only [qeq,wa6,waz] at h;subst h;simp
 | .free::H,0,x,h=>by simp only [qeq,wa6,waz] at h;subst h;simp
 | .live B::H,b+1,x,h=>by simp only [qeq,wa4] at h ⊢;exact qd8 h
 | .view ..::H,b+1,x,h=>by simp only [qeq,wa4] at h ⊢;exact qd8 h
 | .dead::H,b+1,x,h=>by simp only [qeq,wa4] at h ⊢;exact qd8 h
 | .free::H,b+1,x,h=>by simp only [qeq,wa4] at h ⊢;exact qd8 h
theorem qk2:∀ {l:List Nat} {T:List AV} {i:Nat},(qni l T)[i]?=if i∈l then T[i]?.map fun _=>AV.undef else T[i]?
 | [],T,i=>by simp [qni]
 | n::l,T,i=>by
  simp only [qni];rw [qk2 (l:=l),waw]
  by_cases h:n=i
  ·subst h
   by_cases h1:n<T.length
   ·by_cases h2:n∈l<;>simp [h1,h2]
   ·by_cases h2:n∈l<;>simp [h1,h2,wac (Nat.le_of_not_lt h1)]
  ·have h':¬ i=n:=fun e=>h e.symm
   by_cases h2:i∈l<;>simp [h,h',h2]
theorem qga:∀ {l:List Nat} {T:List AV},(qni l T).length=T.length
 | [],_=>rfl
 | n::l,T=>by simp only [qni];rw [qga (l:=l)];simp
theorem qg2:∀ {sl:List (Nat×TV)} {env T:List AV},(qtg nm lens sl env T).length=T.length
 | [],_,_=>rfl
 | (n,tv)::sl,env,T=>by simp only [qtg];rw [qg2 (sl:=sl)];simp
theorem qtu (hn:Nm Γ Γ' ρ nm) {S:St} {a:Act} (em:Emb Γ S a w):∀ {sl:List (Nat×TV)} {q:List Prop} {h:List AV} (rest:List AV) {T:List AV},qvf ρ S.H lens S.T sl=some (q,h)→allP q →
  (∀ (i:Nat) (x:AV),T[i]?=some x→∃ v,a.tmps[i]?=some v∧Ra w Γ' x v) →
  ∀ (i:Nat) (x:AV),(qtg nm lens sl (h++rest) T)[i]?=some x→∃ v,a.tmps[i]?=some v∧Ra w Γ' x v
 | [],q,h,rest,T,hr,_,hT=>hT
 | (n,tv)::sl,q,h,rest,T,hr,hq,hT=>by
  simp only [qvf] at hr;split at hr
  ·rename_i p h1 q' r e1 e2;cases hr;obtain ⟨hq1,hq2⟩:=qag.1 hq;obtain ⟨hq2,hq3⟩:=qag.1 hq2;simp only [qtg,war,qc2 ((qdy e1).length.trans tv.n_eq)];refine qtu hn em rest e2 hq3 fun i x hx=>?_
   rw [waw] at hx;split at hx
   ·rename_i hni;subst hni;split at hx
    ·rename_i hlt;cases hx;obtain ⟨v,hv,_⟩:=hT n T[n] (wab hlt);refine ⟨v,hv,?_⟩;have:=qsk em n;have hg:a.tmps.getD n undef=v:=by
      simp [Array.getD_eq_getD_getElem?,hv]
     rw [hg] at this;exact qdg em.heap.blk hn e1 hq2 (qi5 this hq1) (r++rest)
    ·cases hx
   ·exact hT i x hx
  ·cases hr
theorem qrf {x:Nat}:∀ {l:List (Option Nat)},memO x l=true↔some x∈l
 | []=>by simp [memO]
 | some y::l=>by simp [memO,qrf (l:=l)]
 | none::l=>by simp [memO,qrf (l:=l)]
theorem qdr:∀ {l:List (Option Nat)},qik l=true→∀ (i j b:Nat),l[i]?=some (some b)→l[j]?=some (some b)→i=j
 | [],_,i,_,_,h,_=>by simp at h
 | none::l,h,i,j,b,hi,hj=>by
  simp only [qik] at h
  cases i with
  | zero=>simp at hi
  | succ i=>cases j with
   | zero=>simp at hj
   | succ j =>
    simp only [wa4] at hi hj;rw [qdr h i j b hi hj]
 | some x::l,h,i,j,b,hi,hj=>by
  simp only [qik,wa3,Bool.not_eq_true'] at h;have hx:some x∉l:=fun hm=>by rw [qrf.2 hm] at h;cases h.1
  cases i with
  | zero =>
   cases j with
   | zero=>rfl
   | succ j =>
    simp only [wa6,waz,wa4] at hi hj;subst hi;exact absurd (wbi hj) hx
  | succ i =>
   cases j with
   | zero =>
    simp only [wa6,waz,wa4] at hi hj;subst hj;exact absurd (wbi hi) hx
   | succ j =>
    simp only [wa4] at hi hj;rw [qdr h.2 i j b hi hj]
theorem qi6:∀ {bl:List TB} {acc:List (Nat×Nat)} {j:Nat},(rhoL acc j bl).length=bl.length
 | [],_,_=>rfl
 | _::bl,acc,j=>by simp only [rhoL,wa5,qi6 (bl:=bl)]
theorem qgw {nm:List Nat} {lens:List Nat}:∀ {bl:List TB} {ρ:List (Option Nat)} {env:List AV} {j:Nat} {B:Blk} {o:Option Nat},(qbg nm lens bl env)[j]?=some (.live B)→ρ[j]?=some o→(qfs bl ρ)[j]?=some o
 | [],_,_,j,B,o,h,_=>by simp [qbg] at h
 | tb::bl,[],_,j,B,o,_,h=>by simp at h
 | tb::bl,x::ρ,env,0,B,o,h,hj=>by
  simp only [qbg,wa6,waz] at h hj;subst hj;cases tb<;>simp [qc4,qfs] at h ⊢
 | tb::bl,x::ρ,env,j+1,B,o,h,hj=>by
  simp only [qbg,wa4] at h hj;have:=qgw h hj;cases tb<;>simpa only [qfs,wa4] using this
theorem q74 (em:EmbH Γ H w) {K:List Hs} {A0:Nat→Prop} (hK:∀ (b:Nat) (B:Blk),K[b]?≠some (Hs.live B)) (hKv:∀ (b c i:Nat) (f:Bool),K[b]?≠some (Hs.view c i f)) (hKA:∀ b,A0 b↔∃ h,K[b]?=some h∧h≠.free) {bl:List TB} {q:List Prop} {r:List AV} (hr:qcc ρ H lens ρ bl=some (q,r)) (hq:allP q) (hnd:qik (qfs bl ρ)=true) (rest:List AV) :
  EmbH (Γ.head K.length ρ A0) (K++qbg (qa3 K.length ρ.length) lens bl (r++rest)) w ∧
  ∀ n,Wr (Γ.head K.length ρ A0) (K++qbg (qa3 K.length ρ.length) lens bl (r++rest)) n→Wr Γ H n:=by
 have hn:Nm Γ (Γ.head K.length ρ A0) ρ (qa3 K.length ρ.length):=Nm.head;obtain ⟨hrl,hrg⟩:=qh9 (nm:=qa3 K.length ρ.length) rest hr hq;have hlive:∀ b B,(K++qbg (qa3 K.length ρ.length) lens bl (r++rest))[b]?=some (.live B)→∃ j o,b=K.length+j∧ρ[j]?=some o∧(∀ c,o=some c→Live H c)∧RepB w (Γ.head K.length ρ A0) b B∧(qfs bl ρ)[j]?=some o:=fun b B hB=>by
  rcases Nat.lt_or_ge b K.length with hlt | hge
  ·rw [waf hlt] at hB;exact absurd hB (hK b B)
  ·rw [wag hge] at hB;obtain ⟨o,tb,p',h',rest',k1,k2,k3,k4⟩:=hrg _ _ hB;obtain ⟨m1,m2⟩:=qi3 em.blk hn k1 k2 k3 rest' k4.symm;have hj:=qb6 k1;rw [qau hj] at m2;refine ⟨b-K.length,o,by omega,k1,m1,?_,qgw hB k1⟩
   rw [show b=K.length+(b-K.length) by omega]
   exact m2
 have hlive2:∀ b,Live (K++qbg (qa3 K.length ρ.length) lens bl (r++rest)) b→(Γ.head K.length ρ A0).κ b≠0→∃ j c,b=K.length+j∧(qfs bl ρ)[j]?=some (some c)∧Live H c∧Γ.κ c≠0∧(Γ.head K.length ρ A0).ν b=Γ.ν c:=fun b hb hk=>by
  obtain ⟨B,hB⟩:=hb;obtain ⟨j,o,e,k1,k2,k3,k4⟩:=hlive b B hB;subst e;have hj:=qb6 k1
  cases o with
  | none =>
   have:=(hn.no _ k1).2;rw [qau hj] at this;exact absurd this hk
  | some c =>
   obtain ⟨_,g2,g3⟩:=hn.so _ _ k1;rw [qau hj] at g2 g3;exact ⟨j,c,rfl,k4,k2 c rfl,by rw [← g3];exact hk,g2⟩
 have hN:∀ b,Nest (K++qbg (qa3 K.length ρ.length) lens bl (r++rest)) b→(∃ j c,b=K.length+j∧(qfs bl ρ)[j]?=some (some c)∧Nest H c∧(Γ.head K.length ρ A0).R b=Γ.R c)∨∀ i,((Γ.head K.length ρ A0).R b i).2=0:=fun b ⟨t,rw,ou,hB⟩=>by
  rcases Nat.lt_or_ge b K.length with hlt | hge
  ·rw [waf hlt] at hB;exact absurd hB (hK b _)
  ·rw [wag hge] at hB;obtain ⟨o,tb,p',h',rest',k1,k2,k3,k4⟩:=hrg _ _ hB;have hj:=qb6 k1
   cases o with
   | none =>
    refine .inr fun i=>?_
    have:=hn.rn _ k1 i
    rwa [qau hj,show K.length+(b-K.length)=b by omega] at this
   | some c =>
    have hc:=qj7 k2 rest' k4.symm c rfl;refine .inl ⟨b-K.length,c,by omega,qgw hB k1,hc,?_⟩
    have:=hn.rr _ _ k1
    rwa [qau hj,show K.length+(b-K.length)=b by omega] at this
 have hNO:∀ b n,Nest (K++qbg (qa3 K.length ρ.length) lens bl (r++rest)) b→(Γ.head K.length ρ A0).O b n→∃ j c,b=K.length+j∧(qfs bl ρ)[j]?=some (some c)∧Nest H c∧Γ.O c n:=fun b n hb ⟨i,h1,h2⟩=>by
  rcases hN b hb with ⟨j,c,g1,g2,g3,g4⟩ | g
  ·exact ⟨j,c,g1,g2,g3,(Cx.O_congr g4).1 ⟨i,h1,h2⟩⟩
  ·exact absurd (g i) h1
 refine ⟨⟨fun b B hB=>?_,fun b b' hb hb' hk hk' he=>?_,fun b hb hk=>?_,em.old,fun b=>?_,⟨fun b b' n h h' ho ho'=>?_,fun b b' n h h' hk ho he=>?_,fun b n h ho=>?_,fun b n h ho=>?_,fun b i i' h h1 h2 h3=>?_⟩,fun m b i f hm=>?_⟩,fun n hn=>?_⟩
 ·obtain ⟨j,o,e,k1,k2,k3,_⟩:=hlive b B hB;exact k3
 ·obtain ⟨j,c,e1,k1,k2,k0,k3⟩:=hlive2 b hb hk;obtain ⟨j',c',e1',k1',k2',k0',k3'⟩:=hlive2 b' hb' hk';have hcc:c=c':=em.inj c c' k2 k2' k0 k0' (by rw [← k3,← k3'];exact he)
  subst hcc;have:=qdr hnd j j' c k1 k1';omega
 ·obtain ⟨j,c,e1,k1,k2,k0,k3⟩:=hlive2 b hb hk;rw [k3];exact em.imm c k2 k0
 ·simp only [Cx.head]
  rcases Nat.lt_or_ge b K.length with hlt | hge
  ·rw [waf hlt];constructor
   ·rintro (hA | hA)
    ·exact (hKA b).1 hA
    ·omega
   ·intro h;exact .inl ((hKA b).2 h)
  ·rw [wag hge];constructor
   ·rintro (hA | hA)
    ·obtain ⟨h,hh,_⟩:=(hKA b).1 hA;have:=qb6 hh;omega
    ·have hlt':b-K.length<(qbg (qa3 K.length ρ.length) lens bl (r++rest)).length:=by rw [qby,← hrl];omega
     exact ⟨_,wab hlt',qel (wab hlt')⟩
   ·rintro ⟨x,hx,hne⟩;have:=qb6 hx;rw [qby,← hrl] at this;exact .inr ⟨hge,by omega⟩
 ·obtain ⟨j,c,e1,k1,k2,k3⟩:=hNO b n h ho;obtain ⟨j',c',e1',k1',k2',k3'⟩:=hNO b' n h' ho';have hcc:c=c':=em.rows.dis c c' n k2 k2' k3 k3';subst hcc;have:=qdr hnd j j' c k1 k1';omega
 ·obtain ⟨j,c,e1,k1,k2,k3⟩:=hNO b n h ho;obtain ⟨j',c',e1',k1',k2',k0',k3'⟩:=hlive2 b' h' hk;exact em.rows.main c c' n k2 k2' k0' k3 (k3'.symm.trans he)
 ·obtain ⟨j,c,e1,k1,k2,k3⟩:=hNO b n h ho;exact em.rows.imm c n k2 k3
 ·obtain ⟨j,c,e1,k1,k2,k3⟩:=hNO b n h ho;exact em.rows.lt c n k2 k3
 ·rcases hN b h with ⟨j,c,g1,g2,g3,g4⟩ | g
  ·rw [g4] at h1 h2 h3;exact em.rows.one c i i' g3 h1 h2 h3
  ·exact absurd (g i) h1
 ·rcases Nat.lt_or_ge m K.length with hlt | hge
  ·rw [waf hlt] at hm;exact absurd hm (hKv _ _ _ _)
  ·rw [wag hge] at hm;obtain ⟨o,tb,p',h',rest',k1,k2,k3,k4⟩:=hrg _ _ hm;obtain ⟨m1,m2⟩:=qpr em hn k1 k2 k3 rest' k4.symm;rw [qau (qb6 k1),show K.length+(m-K.length)=m by omega] at m2
   exact ⟨m1,fun _ _ _ _ _=>m2⟩
 ·rcases hn with ⟨b,hb,hk,he⟩ | ⟨b,hb,hn⟩
  ·obtain ⟨j,c,e1,k1,k2,k0,k3⟩:=hlive2 b hb hk;exact .inl ⟨c,k2,k0,by rw [← k3];exact he⟩
  ·obtain ⟨j,c,e1,k1,k2,k3⟩:=hNO b n hb hn;exact .inr ⟨c,k2,k3⟩
theorem qjd:∀ {n j:Nat} {ρ:List (Option Nat)},idOk j n ρ=true→∀ i,i<n→ρ[i]?=some (some (j+i))
 | n+1,j,some b::ρ,h,i,hi=>by
  simp only [idOk,wa3] at h
  cases i with
  | zero =>
   have:b=j:=wai h.1;subst this;rfl
  | succ i =>
   have:=qjd h.2 i (by omega)
   simp only [wa4,this];congr 2;omega
 | 0,_,_,_,i,hi=>by omega
 | n+1,j,[],h,i,hi=>by simp [idOk] at h
 | n+1,j,none::ρ,h,i,hi=>by simp [idOk] at h
theorem qhj:∀ {k:Nat} {H:List Hs},qon k H=true→k≤H.length∧∀ j,j<k→∃ h,H[j]?=some h∧h≠.free
 | 0,H,_=>⟨Nat.zero_le _,fun j hj=>by omega⟩
 | k+1,x::H,h=>by
  cases x with
  | free=>simp [qon] at h
  | dead =>
   obtain ⟨h1,h2⟩:=qhj (k:=k) (H:=H) (by simpa [qon] using h)
   refine ⟨by simp;omega,fun j hj=>?_⟩
   cases j with
   | zero=>exact ⟨_,rfl,by simp⟩
   | succ j=>simpa using h2 j (by omega)
  | live B =>
   obtain ⟨h1,h2⟩:=qhj (k:=k) (H:=H) (by simpa [qon] using h)
   refine ⟨by simp;omega,fun j hj=>?_⟩
   cases j with
   | zero=>exact ⟨_,rfl,by simp⟩
   | succ j=>simpa using h2 j (by omega)
  | view c i f =>
   obtain ⟨h1,h2⟩:=qhj (k:=k) (H:=H) (by simpa [qon] using h)
   refine ⟨by simp;omega,fun j hj=>?_⟩
   cases j with
   | zero=>exact ⟨_,rfl,by simp⟩
   | succ j=>simpa using h2 j (by omega)
 | k+1,[],h=>by simp [qon] at h
theorem qwe:∀ {k:Nat} {B K:List Hs} {d:Nat},k≤B.length→k≤K.length→∀ i,(pinH k B K d)[i]?=if i<k then B[i]? else if i<K.length then K[i]? else if i<K.length+d+k then some .dead else B[i-(K.length+d)]?
 | 0,B,K,d,_,_,i=>by
  have e:pinH 0 B K d=K++(List.replicate d .dead++B):=by cases B<;>cases K<;>rfl
  rw [e,if_neg (by omega)]
  by_cases h1:i<K.length
  ·rw [if_pos h1,waf h1]
  ·rw [if_neg h1,wag (by omega)]
   by_cases h2:i<K.length+d
   ·rw [if_pos (by omega),waf (by simp;omega),wax,if_pos (by omega)]
   ·rw [if_neg (by omega),wag (by simp;omega),waq]
    congr 1;omega
 | k+1,b::B,x::K,d,h1,h2,i=>by
  simp only [pinH];simp only [wa5] at h1 h2
  cases i with
  | zero=>rw [if_pos (by omega)];rfl
  | succ i =>
   rw [wa4,qwe (by omega) (by omega) i]
   simp only [wa5,wa4]
   by_cases g1:i<k
   ·rw [if_pos g1,if_pos (by omega)]
   ·rw [if_neg g1,if_neg (show ¬ i+1<k+1 by omega)]
    by_cases g2:i<K.length
    ·rw [if_pos g2,if_pos (by omega)]
    ·rw [if_neg g2,if_neg (show ¬ i+1<K.length+1 by omega)]
     by_cases g3:i<K.length+(d+1)+k
     ·rw [if_pos g3,if_pos (by omega)]
     ·rw [if_neg g3,if_neg (by omega)]
      rw [show i+1-(K.length+1+d)=(i-(K.length+(d+1)))+1 by omega,wa4]
 | k+1,[],K,d,h1,_,_=>by simp at h1
 | k+1,_::_,[],d,_,h2,_=>by simp at h2
theorem qfb {k len n j:Nat} (hk:k≤n) (hj:j<n):nmAt (qsu k len n) j=if j<k then j else len+j:=by
 have key:∀ (a b:List Nat) (j:Nat),nmAt (a++b) j=if j<a.length then nmAt a j else nmAt b (j-a.length):=by
  intro a
  induction a with
  | nil=>intro b j;simp
  | cons x a ih =>
   intro b j
   cases j with
   | zero=>simp [nmAt]
   | succ j =>
    simp only [wbc,nmAt,wa5,ih]
    by_cases h:j<a.length
    ·rw [if_pos h,if_pos (by omega)]
    ·rw [if_neg h,if_neg (by omega)];congr 1;omega
 have hl:∀ (a m:Nat),(qa3 a m).length=m:=by
  intro a m
  induction m generalizing a with
  | zero=>rfl
  | succ m ih=>simp [qa3,ih]
 unfold qsu;rw [key,hl]
 by_cases h:j<k
 ·rw [if_pos h,if_pos h,qau h];omega
 ·rw [if_neg h,if_neg h,qau (by omega)];omega
theorem q6e (em:EmbH Γ H w) {nm:List Nat} {K:List Hs} (hn:Nm Γ Γ' ρ nm) (hI:∀ n,Γ'.I n→Γ.I n) {bl:List TB} {q:List Prop} {r:List AV} (hr:qcc ρ H lens ρ bl=some (q,r)) (hq:allP q) (hnd:qik (qfs bl ρ)=true) (rest:List AV)
  (hlay:∀ (b:Nat) (B:Blk),K[b]?=some (.live B)→∃ j,nmAt nm j=b∧(qbg nm lens bl (r++rest))[j]?=some (.live B)) (hA:∀ b,Γ'.A b↔∃ h,K[b]?=some h∧h≠.free) (hKv:∀ (b c i:Nat) (f:Bool),K[b]?=some (.view c i f)→∃ j,nmAt nm j=b∧(qbg nm lens bl (r++rest))[j]?=some (.view c i f)) :
  EmbH Γ' K w∧∀ n,Wr Γ' K n→Wr Γ H n:=by
 obtain ⟨hrl,hrg⟩:=qh9 (nm:=nm) rest hr hq;have hlive:∀ (b:Nat) (B:Blk),K[b]?=some (.live B)→∃ j o,b=nmAt nm j∧ρ[j]?=some o∧(∀ c,o=some c→Live H c)∧RepB w Γ' b B∧(qfs bl ρ)[j]?=some o:=fun b B hB=>by
  obtain ⟨j,e,hj⟩:=hlay b B hB;obtain ⟨o,tb,p',h',rest',k1,k2,k3,k4⟩:=hrg _ _ hj;obtain ⟨m1,m2⟩:=qi3 em.blk hn k1 k2 k3 rest' k4.symm;exact ⟨j,o,e.symm,k1,m1,e▸m2,qgw hj k1⟩
 have hlive2:∀ b,Live K b→Γ'.κ b≠0→∃ j c,b=nmAt nm j∧(qfs bl ρ)[j]?=some (some c)∧Live H c∧Γ.κ c≠0∧Γ'.ν b=Γ.ν c:=fun b hb hk=>by
  obtain ⟨B,hB⟩:=hb;obtain ⟨j,o,e,k1,k2,k3,k4⟩:=hlive b B hB;subst e
  cases o with
  | none=>exact absurd (hn.no _ k1).2 hk
  | some c =>
   obtain ⟨_,g2,g3⟩:=hn.so _ _ k1;exact ⟨j,c,rfl,k4,k2 c rfl,by rw [← g3];exact hk,g2⟩
 have hN:∀ b,Nest K b→(∃ j c,b=nmAt nm j∧(qfs bl ρ)[j]?=some (some c)∧Nest H c∧Γ'.R b=Γ.R c)∨∀ i,(Γ'.R b i).2=0:=fun b ⟨t,rw,ou,hB⟩=>by
  obtain ⟨j,e,hj⟩:=hlay b _ hB;obtain ⟨o,tb,p',h',rest',k1,k2,k3,k4⟩:=hrg _ _ hj
  cases o with
  | none=>exact .inr fun i=>e▸hn.rn _ k1 i
  | some c=>exact .inl ⟨j,c,e.symm,qgw hj k1,qj7 k2 rest' k4.symm c rfl,e▸hn.rr _ _ k1⟩
 have hNO:∀ b n,Nest K b→Γ'.O b n→∃ j c,b=nmAt nm j∧(qfs bl ρ)[j]?=some (some c)∧Nest H c∧Γ.O c n:=fun b n hb ⟨i,h1,h2⟩=>by
  rcases hN b hb with ⟨j,c,g1,g2,g3,g4⟩ | g
  ·exact ⟨j,c,g1,g2,g3,(Cx.O_congr g4).1 ⟨i,h1,h2⟩⟩
  ·exact absurd (g i) h1
 refine ⟨⟨fun b B hB=>?_,fun b b' hb hb' hk hk' he=>?_,fun b hb hk hi=>?_,fun n h=>em.old n (hI n h),hA,⟨fun b b' n h h' ho ho'=>?_,fun b b' n h h' hk ho he=>?_,fun b n h ho=>?_,fun b n h ho=>?_,fun b i i' h h1 h2 h3=>?_⟩,fun m b i f hm=>?_⟩,fun n hn=>?_⟩
 ·obtain ⟨j,o,e,k1,k2,k3,_⟩:=hlive b B hB;exact k3
 ·obtain ⟨j,c,e1,k1,k2,k0,k3⟩:=hlive2 b hb hk;obtain ⟨j',c',e1',k1',k2',k0',k3'⟩:=hlive2 b' hb' hk';have hcc:c=c':=em.inj c c' k2 k2' k0 k0' (by rw [← k3,← k3'];exact he)
  subst hcc;have:=qdr hnd j j' c k1 k1';subst this;rw [e1,e1']
 ·obtain ⟨j,c,e1,k1,k2,k0,k3⟩:=hlive2 b hb hk;rw [k3] at hi;exact em.imm c k2 k0 (hI _ hi)
 ·obtain ⟨j,c,e1,k1,k2,k3⟩:=hNO b n h ho;obtain ⟨j',c',e1',k1',k2',k3'⟩:=hNO b' n h' ho';have hcc:c=c':=em.rows.dis c c' n k2 k2' k3 k3';subst hcc;have:=qdr hnd j j' c k1 k1';subst this;rw [e1,e1']
 ·obtain ⟨j,c,e1,k1,k2,k3⟩:=hNO b n h ho;obtain ⟨j',c',e1',k1',k2',k0',k3'⟩:=hlive2 b' h' hk;exact em.rows.main c c' n k2 k2' k0' k3 (k3'.symm.trans he)
 ·obtain ⟨j,c,e1,k1,k2,k3⟩:=hNO b n h ho;exact fun hi=>em.rows.imm c n k2 k3 (hI _ hi)
 ·obtain ⟨j,c,e1,k1,k2,k3⟩:=hNO b n h ho;exact em.rows.lt c n k2 k3
 ·rcases hN b h with ⟨j,c,g1,g2,g3,g4⟩ | g
  ·rw [g4] at h1 h2 h3;exact em.rows.one c i i' g3 h1 h2 h3
  ·exact absurd (g i) h1
 ·obtain ⟨j,e,hj⟩:=hKv m b i f hm;obtain ⟨o,tb,p',h',rest',k1,k2,k3,k4⟩:=hrg _ _ hj;obtain ⟨m1,m2⟩:=qpr em hn k1 k2 k3 rest' k4.symm;rw [e] at m2;exact ⟨m1,fun _ _ _ _ _=>m2⟩
 ·rcases hn with ⟨b,hb,hk,he⟩ | ⟨b,hb,hn⟩
  ·obtain ⟨j,c,e1,k1,k2,k0,k3⟩:=hlive2 b hb hk;exact .inl ⟨c,k2,k0,by rw [← k3];exact he⟩
  ·obtain ⟨j,c,e1,k1,k2,k3⟩:=hNO b n hb hn;exact .inr ⟨c,k2,k3⟩
theorem q68 {Γ0:Cx} {S0 S:St} {a0 a:Act} {w0:World} (em0:Emb Γ0 S0 a0 w0) (em:Emb Γ S a w) (hx:Ext Γ0 S0.H w0 Γ S.H w) {asg:List Nat} (hlen:S.T.length=S0.T.length) (hT:∀ n,n∉asg→S.T[n]?=S0.T[n]?)
  {sl:List (Nat×TV)} {bl:List TB} {k:Nat} (hpin0:qon k S0.H=true) {obs:List Prop} {env:List AV} (hr:qtb sl bl k S=some (obs,env)) (hob:allP obs) :
  ∃ Γ',Emb Γ' (qjk asg sl bl k S0 env) a w∧Ext Γ0 S0.H w0 Γ' (qjk asg sl bl k S0 env).H w:=by
 simp only [qtb] at hr;have hρl:(rhoL (qdd S.H 0 bl (qu7 0 k++q31 S.T sl)) 0 bl).length=bl.length:=qi6;generalize rhoL (qdd S.H 0 bl (qu7 0 k++q31 S.T sl)) 0 bl=ρ at hr hρl;split at hr
 ·rename_i hnd;simp only [wa3] at hnd;obtain ⟨hnd,hid,_⟩:=hnd;have hid:=qjd hid;obtain ⟨hk0,hpin0⟩:=qhj hpin0;have hkb:k≤bl.length:=by
   rcases Nat.eq_zero_or_pos k with h0 | h0
   ·omega
   ·have:=qb6 (hid (k-1) (by omega));omega
  split at hr
  ·rename_i p h q r e1 e2;cases hr;obtain ⟨hp,hq⟩:=qag.1 hob;have hdrop:qfq (cntS sl) (h++r)=r:=qc2 ((qq6 e1).length.trans q1p);have hle:qsj bl r=qe3 S.H ρ bl:=by have:=qt9 [] e2;rwa [wbo] at this
   have hA0:∀ b,Γ0.A b→b<S0.H.length:=fun b hb=>by
    obtain ⟨x,hx,_⟩:=(em0.heap.al b).1 hb;exact qbf hx
   have hA1:∀ j,j<k→Γ0.A j:=fun j hj=>(em0.heap.al j).2 (hpin0 j hj)
   have hAR:∀ b,Γ0.A b→(Γ.head S0.H.length ρ Γ0.A).A b∧(Γ.head S0.H.length ρ Γ0.A).ν b=Γ.ν b∧(Γ.head S0.H.length ρ Γ0.A).κ b=Γ.κ b:=fun b hb=>by
    refine ⟨.inl hb,?_,?_⟩<;>simp only [Cx.head]<;>rw [if_pos (hA0 b hb)]
   have hn0:Nm Γ (Γ.head S0.H.length ρ Γ0.A) ρ (qa3 S0.H.length bl.length):=hρl▸Nm.head;have hn:Nm Γ (Γ.head S0.H.length ρ Γ0.A) ρ (qsu k S0.H.length bl.length):=by
    refine ⟨hn0.I,fun j b hj=>?_,fun j hj=>?_,fun j b hj=>?_,fun j hj i=>?_⟩
    ·have hjl:j<bl.length:=by have:=qb6 hj;omega
     rw [qfb hkb hjl]
     by_cases h:j<k
     ·rw [if_pos h];have:=hid j h;rw [hj,wa7] at this;cases this;exact hAR j (hA1 j h)
     ·rw [if_neg h];have:=hn0.so j b hj
      rwa [qau hjl] at this
    ·have hjl:j<bl.length:=by have:=qb6 hj;omega
     rw [qfb hkb hjl]
     by_cases h:j<k
     ·have:=hid j h;rw [hj] at this;cases this
     ·rw [if_neg h];have:=hn0.no j hj
      rwa [qau hjl] at this
    ·have hjl:j<bl.length:=by have:=qb6 hj;omega
     rw [qfb hkb hjl]
     by_cases h:j<k
     ·rw [if_pos h];have:=hid j h;rw [hj,wa7] at this;cases this;simp only [Cx.head];rw [if_pos (hA0 j (hA1 j h))]
     ·rw [if_neg h];have:=hn0.rr j b hj
      rwa [qau hjl] at this
    ·have hjl:j<bl.length:=by have:=qb6 hj;omega
     rw [qfb hkb hjl]
     by_cases h:j<k
     ·have:=hid j h;rw [hj] at this;cases this
     ·rw [if_neg h];have:=hn0.rn j hj i
      rwa [qau hjl] at this
   have hKl:(qeq S0.H).length=S0.H.length:=qd3;have hget:=fun (i:Nat)=>qwe (k:=k) (B:=qbg (qsu k S0.H.length bl.length) (qe3 S.H ρ bl) bl r) (K:=qeq S0.H) (d:=0) (by rw [qby];exact hkb) (by rw [hKl];exact hk0) i
   have hrl:=q6e (K:=pinH k (qbg (qsu k S0.H.length bl.length) (qe3 S.H ρ bl) bl r) (qeq S0.H) 0) em.heap hn (fun _ h=>h) e2 hq hnd [] (fun b B hB=>by
    rw [hget] at hB;rw [wbo];split at hB
    ·rename_i hb;exact ⟨b,by rw [qfb hkb (by omega),if_pos hb],hB⟩
    ·rename_i hb;split at hB
     ·exact absurd rfl ((qd8 hB).1.1 B)
     ·split at hB
      ·cases hB
      ·rename_i h1 h2;rw [hKl] at h1;rw [hKl,Nat.add_zero] at h2 hB;have hlt:=qb6 hB;rw [qby] at hlt;exact ⟨b-S0.H.length,by rw [qfb hkb hlt,if_neg (by omega)];omega,hB⟩) (fun b=>by
    rw [hget,hKl,Nat.add_zero];have hlive:∀ i,i<bl.length→∃ x,(qbg (qsu k S0.H.length bl.length) (qe3 S.H ρ bl) bl r)[i]?=some x∧x≠.free:=fun i hi=>by
     have hi':i<(qbg (qsu k S0.H.length bl.length) (qe3 S.H ρ bl) bl r).length:=by rw [qby];exact hi
     exact ⟨_,wab hi',qel (wab hi')⟩
    simp only [Cx.head];split
    ·rename_i hb;exact ⟨fun _=>hlive b (by omega),fun _=>.inl (hA1 b hb)⟩
    ·rename_i hb;split
     ·rename_i h1;constructor
      ·rintro (hA | hA)
       ·have hlt':b<(qeq S0.H).length:=by rw [hKl];exact h1
        exact ⟨_,wab hlt',(qd8 (wab hlt')).2.2 ((em0.heap.al b).1 hA)⟩
       ·omega
      ·rintro ⟨x,hx,hne⟩;exact .inl ((em0.heap.al b).2 ((qd8 hx).2.1 hne))
     ·rename_i h1;split
      ·rename_i h2;exact ⟨fun _=>⟨_,rfl,by simp⟩,fun _=>.inr (by omega)⟩
      ·rename_i h2;constructor
       ·rintro (hA | hA)
        ·exact absurd (hA0 b hA) h1
        ·exact hlive _ (by omega)
       ·rintro ⟨x,hx,_⟩;have:=qb6 hx;rw [qby] at this;exact .inr (by omega)) (fun b c i f hB=>by
    rw [hget] at hB;rw [wbo];split at hB
    ·rename_i hb;exact ⟨b,by rw [qfb hkb (by omega),if_pos hb],hB⟩
    ·rename_i hb;split at hB
     ·exact absurd rfl ((qd8 hB).1.2 c i f)
     ·split at hB
      ·cases hB
      ·rename_i h1 h2;rw [hKl] at h1;rw [hKl,Nat.add_zero] at h2 hB;have hlt:=qb6 hB;rw [qby] at hlt;exact ⟨b-S0.H.length,by rw [qfb hkb hlt,if_neg (by omega)];omega,hB⟩)
   simp only [qjk,hdrop,hle];refine ⟨Γ.head S0.H.length ρ Γ0.A,⟨em.defers,?_,?_,hrl.1⟩,?_⟩
   ·simp only [q0m];rw [qg2,qga,em.size,hlen]
   ·simp only [q0m];refine qtu hn em r e1 hp fun i x hx=>?_
    rw [qk2] at hx;split at hx
    ·rename_i hi
     cases hi':S0.T[i]? with
     | none=>rw [hi'] at hx;cases hx
     | some y =>
      rw [hi'] at hx;cases hx;have hlt:i<a.tmps.size:=by rw [em.size,hlen];exact (List.getElem?_eq_some_iff.1 hi').1
      exact ⟨_,Array.getElem?_eq_getElem hlt,qcg⟩
    ·rename_i hi;obtain ⟨v0,_,hv0⟩:=em0.tmp i x hx;rw [← hT i hi] at hx;obtain ⟨v,hv,hv'⟩:=em.tmp i x hx;exact ⟨v,hv,Rp.shift (Γ:=Γ) (Γ':=Γ.head S0.H.length ρ Γ0.A) (Γ0:=Γ0) (fun _ h=>h) hAR x _ _ hv0 hv'⟩
   ·refine ⟨hx.fr,hx.size,hx.os,hx.out,fun n hn=>hx.wr n (hrl.2 n hn),hx.im,hx.mi,fun b hb=>?_⟩
    obtain ⟨g1,g2,g3⟩:=hAR b hb;obtain ⟨f1,f2,f3⟩:=hx.al b hb;exact ⟨g1,g2.trans f2,g3.trans f3⟩
  ·cases hr
 ·cases hr
end
inductive Ex where
 | normal
 | exit (id:Nat)
 | ret
open Classical in
def gd {X:Type} (p:Prop) (x:Option X):Option X:=if p then x else none
theorem q62 {X:Type} {p:Prop} {x:Option X} (h:p):gd p x=x:=if_pos h
theorem qbq {X:Type} {p:Prop} {x:Option X} {y:X}:gd p x=some y↔p∧x=some y:=by
 unfold gd;split
 ·rename_i h;exact ⟨fun e=>⟨h,e⟩,fun e=>e.2⟩
 ·rename_i h;exact ⟨fun e=>(nomatch e),fun e=>absurd e.1 h⟩
theorem q6t {X Y:Type} {p:Prop} {x:Option X} {f:X→Y}:(gd p x).map f=gd p (x.map f):=by
 unfold gd;split<;>rfl
def gdL {X:Type}:List Prop→Option X→Option X
 | [],x=>x
 | p::l,x=>gd p (gdL l x)
theorem qbi {X:Type} {x:Option X} {y:X}:∀ {l:List Prop},gdL l x=some y↔allP l∧x=some y
 | []=>⟨fun h=>⟨allP_nil,h⟩,fun h=>h.2⟩
 | p::l=>by simp only [gdL,qbq,qbi (l:=l),qa0,and_assoc]
theorem qdu {X Y:Type} {x:Option X} {f:X→Y}:∀ {l:List Prop},(gdL l x).map f=gdL l (x.map f)
 | []=>rfl
 | p::l=>by simp only [gdL,q6t,qdu (l:=l)]
def eqO {X:Type} (P:Prop) (a b:Option X):Option X:=match b with
 | some r=>gd (P→a=some r) (some r)
 | none=>none
theorem qh3 {X:Type} {P:Prop} {a b:Option X} {x:X}:eqO P a b=some x↔b=some x∧(P→a=some x):=by
 cases b with
 | none=>simp [eqO]
 | some r =>
  simp only [eqO,qbq,waz];constructor
  ·rintro ⟨h,rfl⟩;exact ⟨rfl,h⟩
  ·rintro ⟨rfl,h⟩;exact ⟨h,rfl⟩
inductive Lp (S X:Type) where
 | go (s:S)
 | out (x:X)
def Lp.map {S X Y:Type} (f:X→Y):Lp S X→Lp S Y
 | .go s=>.go s
 | .out x=>.out (f x)
theorem Lp.map_id {S X:Type}:∀ {l:Lp S X},Lp.map id l=l
 | .go _=>rfl
 | .out _=>rfl
section
variable {S X Y:Type}
def qco (step:S→Option (Lp S X)):Nat→S→Option X
 | 0,_=>none
 | n+1,s=>match step s with
  | some (.go s')=>qco step n s'
  | some (.out x)=>some x
  | none=>none
theorem qmv {step:S→Option (Lp S X)}:∀ {n:Nat} {s:S} {x:X},qco step n s=some x→qco step (n+1) s=some x
 | 0,_,_,h=>by cases h
 | n+1,s,x,h=>by
  rw [qco] at h ⊢;split at h
  ·exact qmv h
  ·exact h
  ·cases h
theorem qtz {step:S→Option (Lp S X)} {n m:Nat} {s:S} {x:X} (hm:n≤m) (h:qco step n s=some x):qco step m s=some x:=by
 induction hm with
 | refl=>exact h
 | step _ ih=>exact qmv ih
open Classical in
def qgk (step:S→Option (Lp S X)) (s:S):Option X :=
 if h:∃ n x,qco step n s=some x then some h.choose_spec.choose else none
theorem qcf {step:S→Option (Lp S X)} {s:S} {x:X}:qgk step s=some x↔∃ n,qco step n s=some x:=by
 unfold qgk;constructor
 ·intro h;split at h
  ·rename_i hh;have:=hh.choose_spec.choose_spec;rw [waz] at h;rw [h] at this;exact ⟨_,this⟩
  ·cases h
 ·rintro ⟨n,hn⟩;have hh:∃ n x,qco step n s=some x:=⟨n,x,hn⟩;rw [dif_pos hh];have h2:=hh.choose_spec.choose_spec;have h3:=qtz (Nat.le_max_left n hh.choose) hn;have h4:=qtz (Nat.le_max_right n hh.choose) h2;rw [h3] at h4;cases h4;rfl
theorem q3h (step:S→Option (Lp S X)) (s:S):qgk step s=match step s with
  | some (.go s')=>qgk step s'
  | some (.out x)=>some x
  | none=>none:=by
 apply Option.ext;intro x;rw [qcf];constructor
 ·rintro ⟨n,h⟩
  cases n with
  | zero=>cases h
  | succ n =>
   rw [qco] at h;split at h
   ·exact qcf.2 ⟨n,h⟩
   ·exact h
   ·cases h
 ·intro h;split at h
  ·rename_i e;obtain ⟨n,hn⟩:=qcf.1 h;exact ⟨n+1,by rw [qco,e];exact hn⟩
  ·rename_i e;exact ⟨1,by rw [qco,e];exact h⟩
  ·cases h
theorem qnt {step step':S→Option (Lp S X)} (hs:∀ s r,step s=some r→step' s=some r):∀ {n:Nat} {s:S} {x:X},qco step n s=some x→qco step' n s=some x
 | 0,_,_,h=>by cases h
 | n+1,s,x,h=>by
  rw [qco] at h ⊢;split at h
  ·rename_i e;rw [hs _ _ e];exact qnt hs h
  ·rename_i e;rw [hs _ _ e];exact h
  ·cases h
theorem qob {step step':S→Option (Lp S X)} (hs:∀ s r,step s=some r→step' s=some r) {s:S} {x:X} (h:qgk step s=some x):qgk step' s=some x:=by
 obtain ⟨n,h⟩:=qcf.1 h;exact qcf.2 ⟨n,qnt hs h⟩
theorem qla {step:S→Option (Lp S X)} {f:X→Y}:∀ {n:Nat} {s:S},qco (fun s=>(step s).map (Lp.map f)) n s=(qco step n s).map f
 | 0,_=>rfl
 | n+1,s=>by
  rw [qco,qco]
  cases h:step s with
  | none=>rfl
  | some r=>cases r with
   | go s'=>exact qla
   | out x=>rfl
theorem qxo {step:S→Option (Lp S X)} {f:X→Y} {s:S}:qgk (fun s=>(step s).map (Lp.map f)) s=(qgk step s).map f:=by
 apply Option.ext;intro y;rw [qcf];constructor
 ·rintro ⟨n,h⟩;rw [qla] at h;obtain ⟨x,h1,rfl⟩:=Option.map_eq_some_iff.1 h;rw [qcf.2 ⟨n,h1⟩];rfl
 ·intro h;obtain ⟨x,h1,rfl⟩:=Option.map_eq_some_iff.1 h;obtain ⟨n,hn⟩:=qcf.1 h1;exact ⟨n,by rw [qla,hn];rfl⟩
end
def Dens:List Ty→Type
 | []=>Unit
 | t::ts=>Den t×Dens ts
def qba:(ts:List Ty)→Dens ts→List AV
 | [],_=>[]
 | t::ts,x=>.val t x.1::qba ts x.2
def toD:(ts:List Ty)→List AV→Option (Dens ts)
 | [],[]=>some ()
 | t::ts,x::xs=>match asD t x,toD ts xs with
  | some y,some l=>some (y,l)
  | _,_=>none
 | _,_=>none
theorem q23:∀ {ts:List Ty} {env:List AV} {d:Dens ts},toD ts env=some d→qc5 ts env→env=qba ts d
 | [],[],d,h,_=>rfl
 | t::ts,x::xs,d,h,he=>by
  obtain ⟨⟨z,rfl⟩,he⟩:=he;simp only [toD] at h;split at h
  ·rename_i y l e1 e2;cases h;have e1:qa9 t t z=some y:=e1;rw [qcl] at e1;cases e1;simp only [qba];rw [q23 e2 he]
  ·cases h
 | [],_::_,_,h,_=>by simp [toD] at h
 | _::_,[],_,h,_=>by simp [toD] at h
structure LSh where mk3 ::
 sl:List (Nat×TV)
 bl:List TB
 pin:Nat
abbrev LSh.mk (sl:List (Nat×TV)) (bl:List TB):LSh:=⟨sl,bl,0⟩
def LSh.ts (l:LSh):List Ty:=tsS l.sl++tsB l.bl
def qcv:List (Nat×TV)→List Nat
 | []=>[]
 | p::l=>p.1::qcv l
def qir:List AOp→List Nat
 | []=>[]
 | o::l=>match o.dst with
  | some d=>d::qir l
  | none=>qir l
def asg (L:List LSh):AC→List Nat
 | .reg _ ops _=>qir ops
 | .seq a b=>asg L a++asg L b
 | .ite _ a b=>asg L a++asg L b
 | .blk _ a=>asg L a
 | .frz j=>[j]
 | .loop m a=>asg L a++(match L[m.headD 0]? with | some ls=>qcv ls.sl | none=>[])
 | _=>[]
def frees:Nat→List Hs
 | 0=>[]
 | n+1=>.free::frees n
def frzS (S:St) (j:Nat):Option (List Prop×St):=match S.T.getD j .undef with
 | .sl b s i len _=>match hget S.H b with
  | some (.arr t xs _)=>match Nat.beq s (sz t) with
   | true=>some ([i+len≤xs.length],⟨S.T.set j (.val (.slice t) ((xs.drop i).take len)),S.H.set b .dead⟩)
   | false=>none
  | _=>none
 | _=>none
abbrev KT (X:Type):=(Y:Type)→(X→Y)→Ex→St→Option Y
def qkq {X:Type} (ls:LSh) (K:KT X):KT (Lp (Dens ls.ts) X):=fun Z g e S=>match e with
 | .normal=>match qtb ls.sl ls.bl ls.pin S with
  | some (q,env)=>match toD ls.ts env with
   | some d=>gdL q (some (g (.go d)))
   | none=>none
  | none=>none
 | .exit i=>K Z (fun x=>g (.out x)) (.exit i) S
 | .ret=>K Z (fun x=>g (.out x)) .ret S
def seqK {X:Type} (R:St→KT X→(Y:Type)→(X→Y)→Option Y) (K:KT X):KT X:=fun Y f e S=>match e with
 | .normal=>R S K Y f
 | .exit i=>K Y f (.exit i) S
 | .ret=>K Y f .ret S
def blkK {X:Type} (id:Nat) (K:KT X):KT X:=fun Y f e S=>match e with
 | .normal=>K Y f .normal S
 | .exit i=>match Nat.beq i id with
  | true=>K Y f .normal S
  | false=>K Y f (.exit i) S
 | .ret=>K Y f .ret S
def runO (sp:Spec) (L:List LSh):AC→{X:Type}→St→KT X→(Y:Type)→(X→Y)→Option Y
 | .skip,_,S,K,Y,f=>K Y f .normal S
 | .reg m ops ed,_,S,K,Y,f=>match runL sp S.H.length 0 ops ⟨S.T,S.H++frees m⟩ with
  | r=>match ed with
   | none=>gdL r.ob (K Y f .normal r.S)
   | some ms=>match qi9 ms [] r.inf with
    | true=>gdL r.ob (K Y f .normal r.S)
    | false=>match litR sp S.H.length ops ms ⟨S.T,S.H++frees m⟩ with
     | some r'=>gdL r'.ob (K Y f .normal r'.S)
     | none=>none
 | .seq a b,_,S,K,Y,f=>runO sp L a S (seqK (fun S' K Y f=>runO sp L b S' K Y f) K) Y f
 | .ite c x y,X,S,K,Y,f=>match peel (ev S.T c) with
  | (p,v)=>match asBool v with
   | some b=>gdL p (cond b (runO sp L x S K Y f) (runO sp L y S K Y f))
   | none=>match v with
    | .anyb pos P=>gdL p (Option.map f (eqO P (cond pos (runO sp L x S K X id) (runO sp L y S K X id)) (cond pos (runO sp L y S K X id) (runO sp L x S K X id))))
    | _=>none
 | .blk id a,_,S,K,Y,f=>runO sp L a S (blkK id K) Y f
 | .frz j,_,S,K,Y,f=>match frzS S j with
  | some (p,S')=>gdL p (K Y f .normal S')
  | none=>none
 | .exit id,_,S,K,Y,f=>K Y f (.exit id) S
 | .ret,_,S,K,Y,f=>K Y f .ret S
 | .loop m a,_,S,K,Y,f=>match L[m.headD 0]? with
  | some ls=>match qtb ls.sl ls.bl ls.pin S with
   | some (p,env0)=>match toD ls.ts env0 with
    | some d0=>gdL p (qgk (fun d=>runO sp L a (qjk (asg L a++qcv ls.sl) ls.sl ls.bl ls.pin S (qba ls.ts d)) (qkq ls K) (Lp (Dens ls.ts) Y) (Lp.map f)) d0)
    | none=>none
   | none=>none
  | none=>none
section
variable {sp:Spec} {L:List LSh}
def NatK {X:Type} (K:KT X):Prop:=∀ (Y:Type) (f:X→Y) e S,K Y f e S=(K X id e S).map f
theorem qna {X:Type} {ls:LSh} {K:KT X} (hK:NatK K):NatK (qkq ls K):=fun Z g e S=>by
 cases e with
 | normal =>
  simp only [qkq];split
  ·split
   ·rw [qdu];rfl
   ·rfl
  ·rfl
 | exit i =>
  simp only [qkq];rw [hK Z,hK (Lp (Dens ls.ts) X),Option.map_map];rfl
 | ret =>
  simp only [qkq];rw [hK Z,hK (Lp (Dens ls.ts) X),Option.map_map];rfl
theorem qw4 {X:Type} {id:Nat} {K:KT X} (hK:NatK K):NatK (blkK id K):=fun Z g e S=>by
 cases e with
 | normal=>exact hK _ _ _ _
 | exit i =>
  simp only [blkK];split<;>exact hK _ _ _ _
 | ret=>exact hK _ _ _ _
theorem qei:∀ {ac:AC} {X:Type} {K:KT X} (hK:NatK K) {S:St} {Y:Type} {f:X→Y},runO sp L ac S K Y f=(runO sp L ac S K X id).map f
 | .skip,X,K,hK,S,Y,f=>by simp only [runO];exact hK _ _ _ _
 | .frz j,X,K,hK,S,Y,f=>by
  simp only [runO];split
  ·rw [qdu,hK]
  ·rfl
 | .reg m ops ed,X,K,hK,S,Y,f=>by
  cases ed with
  | none=>simp only [runO];rw [qdu,hK]
  | some ms =>
   simp only [runO];split
   ·rw [qdu,hK]
   ·split
    ·rw [qdu,hK]
    ·rfl
 | .seq a b,X,K,hK,S,Y,f=>by
  simp only [runO];refine qei (fun Y f e S'=>?_)
  cases e with
  | normal=>exact qei hK
  | exit i=>exact hK _ _ _ _
  | ret=>exact hK _ _ _ _
 | .ite c x y,X,K,hK,S,Y,f=>by
  simp only [runO];split
  ·rename_i b hb;rw [qdu];congr 1;cases b
   ·exact qei hK
   ·exact qei hK
  ·split
   ·rw [qdu,Option.map_map];rfl
   ·rfl
 | .blk id a,X,K,hK,S,Y,f=>by
  simp only [runO];exact qei (qw4 hK)
 | .exit i,X,K,hK,S,Y,f=>by simp only [runO];exact hK _ _ _ _
 | .ret,X,K,hK,S,Y,f=>by simp only [runO];exact hK _ _ _ _
 | .loop m a,X,K,hK,S,Y,f=>by
  simp only [runO];split
  ·rename_i ls hls;split
   ·split
    ·rw [qdu,← qxo];congr 2;funext d;rw [qei (qna hK) (f:=Lp.map f),qei (qna hK) (f:=Lp.map id)];rw [Option.map_map];congr 1;funext r;cases r<;>rfl
    ·rfl
   ·rfl
  ·rfl
def LeK {X:Type} (K K':KT X):Prop:=∀ (Y:Type) (f:X→Y) e S y,K Y f e S=some y→K' Y f e S=some y
theorem q4s {X:Type} {ls:LSh} {K K':KT X} (h:LeK K K'):LeK (qkq ls K) (qkq ls K'):=fun Y f e S y hy=>by
 cases e with
 | normal=>exact hy
 | exit i=>exact h _ _ _ _ _ hy
 | ret=>exact h _ _ _ _ _ hy
theorem zbl {X:Type} {i:Nat} {K K':KT X} (h:LeK K K'):LeK (blkK i K) (blkK i K'):=fun Y f e S y hy=>by
 cases e with
 | normal=>exact h _ _ _ _ _ hy
 | exit j =>
  simp only [blkK] at hy ⊢;split at hy<;>exact h _ _ _ _ _ hy
 | ret=>exact h _ _ _ _ _ hy
theorem qbl:∀ {ac:AC} {X:Type} {K K':KT X} (h:LeK K K') {S:St} {Y:Type} {f:X→Y} {y:Y},runO sp L ac S K Y f=some y→runO sp L ac S K' Y f=some y
 | .skip,X,K,K',h,S,Y,f,y,hr=>h _ _ _ _ _ hr
 | .frz j,X,K,K',h,S,Y,f,y,hr=>by
  simp only [runO] at hr ⊢;split at hr
  ·rw [qbi] at hr ⊢;exact ⟨hr.1,h _ _ _ _ _ hr.2⟩
  ·cases hr
 | .reg m ops ed,X,K,K',h,S,Y,f,y,hr=>by
  cases ed with
  | none =>
   simp only [runO,qbi] at hr ⊢;exact ⟨hr.1,h _ _ _ _ _ hr.2⟩
  | some ms =>
   simp only [runO] at hr ⊢;split at hr
   ·rw [qbi] at hr ⊢;exact ⟨hr.1,h _ _ _ _ _ hr.2⟩
   ·split at hr
    ·rw [qbi] at hr ⊢;exact ⟨hr.1,h _ _ _ _ _ hr.2⟩
    ·cases hr
 | .seq a b,X,K,K',h,S,Y,f,y,hr=>by
  simp only [runO] at hr ⊢;refine qbl (fun Y f e S' y hy=>?_) hr
  cases e with
  | normal=>exact qbl h hy
  | exit i=>exact h _ _ _ _ _ hy
  | ret=>exact h _ _ _ _ _ hy
 | .ite c x z,X,K,K',h,S,Y,f,y,hr=>by
  simp only [runO] at hr ⊢;split at hr
  ·rename_i b hb;rw [qbi] at hr ⊢;refine ⟨hr.1,?_⟩;cases b
   ·exact qbl h hr.2
   ·exact qbl h hr.2
  ·split at hr
   ·rename_i pos P hv;rw [qbi,Option.map_eq_some_iff] at hr ⊢;obtain ⟨hp,r,hr,rfl⟩:=hr;rw [qh3] at hr;refine ⟨hp,r,qh3.2 ?_,rfl⟩;cases pos
    ·exact ⟨qbl h hr.1,fun hP=>qbl h (hr.2 hP)⟩
    ·exact ⟨qbl h hr.1,fun hP=>qbl h (hr.2 hP)⟩
   ·cases hr
 | .blk id a,X,K,K',h,S,Y,f,y,hr=>by
  simp only [runO] at hr ⊢;exact qbl (zbl h) hr
 | .exit i,X,K,K',h,S,Y,f,y,hr=>h _ _ _ _ _ hr
 | .ret,X,K,K',h,S,Y,f,y,hr=>h _ _ _ _ _ hr
 | .loop m a,X,K,K',h,S,Y,f,y,hr=>by
  simp only [runO] at hr ⊢;split at hr
  ·split at hr
   ·split at hr
    ·rw [qbi] at hr ⊢;exact ⟨hr.1,qob (fun d r hd=>qbl (q4s h) hd) hr.2⟩
    ·cases hr
   ·cases hr
  ·cases hr
structure Agr (l:List Nat) (S S':St):Prop where
 len:S'.T.length=S.T.length
 get:∀ n,n∉l→S'.T[n]?=S.T[n]?
theorem Agr.refl (l:List Nat) (S:St):Agr l S S:=⟨rfl,fun _ _=>rfl⟩
theorem Agr.trans {l:List Nat} {S S' S'':St} (h:Agr l S S') (h':Agr l S' S''):Agr l S S'':=⟨h'.len.trans h.len,fun n hn=>(h'.get n hn).trans (h.get n hn)⟩
theorem Agr.mono {l l':List Nat} {S S':St} (h:Agr l S S') (hl:∀ n∈l,n∈l'):Agr l' S S':=⟨h.len,fun n hn=>h.get n fun hm=>hn (hl n hm)⟩
theorem q1l {o:AOp}:(qcr o).dst=o.dst:=by
 unfold qcr;split<;>rfl
theorem qpm:∀ {l:List AOp},qir (l.map qcr)=qir l
 | []=>rfl
 | o::l=>by simp only [wbd,qir,q1l,qpm (l:=l)]
theorem qq0 {base:Nat}:∀ {l:List AOp} {i:Nat} {S:St},Agr (qir l) S (runL sp base i l S).S
 | [],i,S=>Agr.refl _ _
 | o::l,i,S=>by
  rw [qes];have ih:=qq0 (base:=base) (l:=l) (i:=i+1) (S:=S.step o.dst (geff sp base S.T S.H o));have h0:Agr (qir (o::l)) S (S.step o.dst (geff sp base S.T S.H o)):=by
   refine ⟨qnm,fun n hn=>?_⟩
   simp only [St.step,qsb];rw [if_neg];intro hd;apply hn;simp only [qir,hd];exact way ..
  refine h0.trans (ih.mono fun n hn=>?_)
  simp only [qir];split
  ·exact wam _ hn
  ·exact hn
theorem qnr {nm lens:List Nat}:∀ {sl:List (Nat×TV)} {env T:List AV} {n:Nat},n∉qcv sl→(qtg nm lens sl env T)[n]?=T[n]?
 | [],_,_,_,_=>rfl
 | (m,tv)::sl,env,T,n,h=>by
  simp only [qcv,List.mem_cons,not_or] at h;simp only [qtg];rw [qnr h.2,wah (Ne.symm h.1)]
theorem qwp {l:List Nat} {sl:List (Nat×TV)} {bl:List TB} {k:Nat} {S:St} {env:List AV}:Agr (l++qcv sl) S (qjk (l++qcv sl) sl bl k S env):=by
 refine ⟨by simp only [qjk,q0m];rw [qg2,qga],fun n hn=>?_⟩
 simp only [qjk,q0m];rw [qnr (fun h=>hn (wbh _ h)),qk2,if_neg hn]
def agrK {X:Type} (l:List Nat) (S:St) (K:KT X):KT X:=fun Y f e S'=>gd (Agr l S S') (K Y f e S')
theorem q5m {S S':St} {j:Nat} {p:List Prop} (h:frzS S j=some (p,S')):Agr [j] S S':=by
 unfold frzS at h;split at h
 ·split at h
  ·split at h
   ·cases h;exact ⟨by simp,fun n hn=>by
     have:j≠n:=fun e=>hn (by simp [e])
     simp [wah this]⟩
   ·cases h
  ·cases h
 ·cases h
theorem qdo:∀ {ac:AC} {X:Type} {K:KT X} {S:St} {Y:Type} {f:X→Y} {y:Y},runO sp L ac S K Y f=some y→runO sp L ac S (agrK (asg L ac) S K) Y f=some y
 | .skip,X,K,S,Y,f,y,hr=>qbq.2 ⟨Agr.refl _ _,hr⟩
 | .frz j,X,K,S,Y,f,y,hr=>by
  simp only [runO] at hr ⊢;split at hr
  ·rename_i p S' e;rw [qbi] at hr ⊢;exact ⟨hr.1,qbq.2 ⟨q5m e,hr.2⟩⟩
  ·cases hr
 | .reg m ops ed,X,K,S,Y,f,y,hr=>by
  have hag:Agr (asg L (.reg m ops ed)) S (runL sp S.H.length 0 ops ⟨S.T,S.H++frees m⟩).S:=by
   have:=qq0 (sp:=sp) (base:=S.H.length) (l:=ops) (i:=0) (S:=⟨S.T,S.H++frees m⟩);exact ⟨this.len,this.get⟩
  cases ed with
  | none =>
   simp only [runO,qbi] at hr ⊢;exact ⟨hr.1,qbq.2 ⟨hag,hr.2⟩⟩
  | some ms =>
   simp only [runO] at hr ⊢;split at hr
   ·rw [qbi] at hr ⊢;exact ⟨hr.1,qbq.2 ⟨hag,hr.2⟩⟩
   ·split at hr
    ·rename_i r' hlit;rw [qbi] at hr ⊢;refine ⟨hr.1,qbq.2 ⟨?_,hr.2⟩⟩;obtain ⟨d0,q,k,v,os,us,_,_,_,_,_,_,rfl⟩:=qse hlit;have:=qq0 (sp:=sp) (base:=S.H.length) (l:=ops.map qcr) (i:=0) (S:=⟨S.T,S.H++frees m⟩);rw [qpm] at this;exact ⟨this.len,this.get⟩
    ·cases hr
 | .seq a b,X,K,S,Y,f,y,hr=>by
  simp only [runO] at hr ⊢;refine qbl (fun Y f e S' y hy=>?_) (qdo hr)
  obtain ⟨hag,hy⟩:=qbq.1 hy
  cases e with
  | normal =>
   simp only [seqK] at hy ⊢;refine qbl (fun Y f e' S'' y he'=>?_) (qdo hy)
   obtain ⟨h1,h2⟩:=qbq.1 he';exact qbq.2 ⟨(hag.mono fun n hn=>wbg _ hn).trans (h1.mono fun n hn=>wbh _ hn),h2⟩
  | exit i=>exact qbq.2 ⟨hag.mono fun n hn=>wbg _ hn,hy⟩
  | ret=>exact qbq.2 ⟨hag.mono fun n hn=>wbg _ hn,hy⟩
 | .ite c x z,X,K,S,Y,f,y,hr=>by
  simp only [runO] at hr ⊢;have le1:LeK (agrK (asg L x) S K) (agrK (asg L (.ite c x z)) S K):=fun Y f e S' y h=>by
   obtain ⟨h1,h2⟩:=qbq.1 h;exact qbq.2 ⟨h1.mono fun n hn=>wbg _ hn,h2⟩
  have le2:LeK (agrK (asg L z) S K) (agrK (asg L (.ite c x z)) S K):=fun Y f e S' y h=>by
   obtain ⟨h1,h2⟩:=qbq.1 h;exact qbq.2 ⟨h1.mono fun n hn=>wbh _ hn,h2⟩
  split at hr
  ·rename_i b hb;rw [qbi] at hr ⊢;refine ⟨hr.1,?_⟩;cases b
   ·exact qbl le2 (qdo hr.2)
   ·exact qbl le1 (qdo hr.2)
  ·split at hr
   ·rename_i pos P hv;rw [qbi,Option.map_eq_some_iff] at hr ⊢;obtain ⟨hp,r,hr,rfl⟩:=hr;rw [qh3] at hr;refine ⟨hp,r,qh3.2 ?_,rfl⟩;cases pos
    ·exact ⟨qbl le1 (qdo hr.1),fun hP=>qbl le2 (qdo (hr.2 hP))⟩
    ·exact ⟨qbl le2 (qdo hr.1),fun hP=>qbl le1 (qdo (hr.2 hP))⟩
   ·cases hr
 | .blk id a,X,K,S,Y,f,y,hr=>by
  simp only [runO] at hr ⊢;refine qbl (fun Y f e S' y hy=>?_) (qdo hr)
  obtain ⟨hag,hy⟩:=qbq.1 hy
  cases e with
  | normal=>exact qbq.2 ⟨hag,hy⟩
  | exit i =>
   simp only [blkK] at hy ⊢;split at hy<;>exact qbq.2 ⟨hag,hy⟩
  | ret=>exact qbq.2 ⟨hag,hy⟩
 | .exit i,X,K,S,Y,f,y,hr=>qbq.2 ⟨Agr.refl _ _,hr⟩
 | .ret,X,K,S,Y,f,y,hr=>qbq.2 ⟨Agr.refl _ _,hr⟩
 | .loop m a,X,K,S,Y,f,y,hr=>by
  simp only [runO] at hr ⊢;split at hr
  ·rename_i ls hls;split at hr
   ·split at hr
    ·rw [qbi] at hr ⊢;refine ⟨hr.1,qob (fun d r hd=>?_) hr.2⟩
     refine qbl (fun Y f e S' y hy=>?_) (qdo hd)
     obtain ⟨hag,hy⟩:=qbq.1 hy;have hag':Agr (asg L (.loop m a)) S S':=by
      simp only [asg,hls];exact qwp.trans (hag.mono fun n hn=>wbg _ hn)
     cases e with
     | normal=>exact hy
     | exit i=>exact qbq.2 ⟨hag',hy⟩
     | ret=>exact qbq.2 ⟨hag',hy⟩
    ·cases hr
   ·cases hr
  ·cases hr
end
theorem q4j {P:Program} {Q:Exit→Act→World→Prop} {a:Act} {w:World} {c:Code} (I:Nat→Act→World→Prop) (h₀:∃ n,I n a w)
  (round:∀ n a w,I n a w→c.wp P (Exit.then (fun a' w'=>∃ m,m<n∧I m a' w') Q) a w):(Code.loop c).wp P Q a w:=by
 intro b k cs;have key:∀ n a w,I n a w →
   ∃ e a' w',Q e a' w'∧Arrives P (lone (b.at a (.code c::.inLoop c::k)) cs w) b k cs e a' w':=by
  intro n
  induction n using Nat.strongRecOn with
  | _ n ih =>
   intro a w hI;obtain ⟨e,a₁,w₁,hq,harr⟩:=round n a w hI b (.inLoop c::k) cs
   cases e with
   | normal =>
    obtain ⟨m,hlt,hI₁⟩:=hq;obtain ⟨e₂,a₂,w₂,hq₂,harr₂⟩:=ih m hlt a₁ w₁ hI₁;exact ⟨e₂,a₂,w₂,hq₂,.of_steps (Steps.trans harr (.one step_inLoop)) harr₂⟩
   | exit id=>exact ⟨_,a₁,w₁,hq,.pass (x:=.inLoop c) rfl (fun _ _=>.inl (by simp)) harr⟩
   | goto l=>exact ⟨_,a₁,w₁,hq,.pass (x:=.inLoop c) rfl (fun _ _=>.inl (by simp)) harr⟩
   | ret=>exact ⟨_,a₁,w₁,hq,.pass (x:=.inLoop c) rfl (fun _ _=>.inl (by simp)) harr⟩
   | panic ch=>exact ⟨_,a₁,w₁,hq,.pass (x:=.inLoop c) rfl (fun _ _=>.inl (by simp)) harr⟩
   | outgrown=>exact ⟨_,a₁,w₁,hq,.pass (x:=.inLoop c) rfl (fun _ _=>.inl (by simp)) harr⟩
 obtain ⟨n,h₀⟩:=h₀;obtain ⟨e,a',w',hq,harr⟩:=key n a w h₀;exact ⟨e,a',w',hq,.of_steps (.one step_loop) harr⟩
def QK (Γ0:Cx) (H0:List Hs) (w0:World) (K:Ex→St→Prop):Exit→Act→World→Prop:=fun e a w =>
 ∃ Γ S,Emb Γ S a w∧Ext Γ0 H0 w0 Γ S.H w∧(match e with
  | .normal=>K .normal S
  | .exit i=>K (.exit i) S
  | .ret=>K .ret S
  | _=>False)
theorem qth:∀ {m b:Nat} {x:Hs},(frees m)[b]?=some x→x=.free
 | 0,_,_,h=>by simp [frees] at h
 | m+1,0,x,h=>by simp only [frees,wa6,waz] at h;exact h.symm
 | m+1,b+1,x,h=>by simp only [frees,wa4] at h;exact qth h
theorem qex {H:List Hs} {m b:Nat} {x:Hs} (h:(H++frees m)[b]?=some x):H[b]?=some x∨x=.free:=by
 rcases Nat.lt_or_ge b H.length with hlt | hge
 ·rw [waf hlt] at h;exact .inl h
 ·rw [wag hge] at h;exact .inr (qth h)
theorem q17 {H:List Hs} {m b:Nat} {x:Hs} (h:H[b]?=some x):(H++frees m)[b]?=some x:=by
 rw [waf (qbf h)];exact h
section
variable {P:Program} {sp:Spec} {L:List LSh} {Γ:Cx} {S:St} {a:Act} {w:World}
theorem qk4 {H:List Hs} {m b:Nat} (h:Live (H++frees m) b):Live H b:=by
 obtain ⟨B,hB⟩:=h
 rcases qex hB with h | h
 ·exact ⟨B,h⟩
 ·cases h
theorem Emb.frees (em:Emb Γ S a w) (m:Nat):Emb Γ ⟨S.T,S.H++frees m⟩ a w∧Ext Γ S.H w Γ (S.H++Ab.frees m) w:=by
 refine ⟨⟨em.defers,em.size,em.tmp,⟨fun b B hB=>?_,fun b b' h h'=>em.heap.inj b b' (qk4 h) (qk4 h'),fun b h=>em.heap.imm b (qk4 h),em.heap.old,fun b=>?_,em.heap.rows.sub (fun b B h=>(qex h).elim id fun h=>nomatch h) (fun n h=>.inl h) (wad _),
  em.heap.vw_keep (fun _ h=>⟨h,rfl,rfl⟩) (fun m b i f h=>(qex h).elim id fun h=>nomatch h) fun b t rows ho _ h=>⟨rfl,t,rows,ho,(qex h).elim id (fun h=>nomatch h),wad _⟩⟩⟩,?_⟩
 ·rcases qex hB with h | h
  ·exact em.heap.blk b B h
  ·cases h
 ·rw [em.heap.al b];constructor
  ·rintro ⟨x,hx,hn⟩;exact ⟨x,q17 hx,hn⟩
  ·rintro ⟨x,hx,hn⟩
   rcases qex hx with h | h
   ·exact ⟨x,h,hn⟩
   ·exact absurd h hn
 ·exact ⟨fun _ _ _=>rfl,wad _,rfl,rfl,fun n hw=>.inl (hw.sub fun b B h=>(qex h).elim id fun h=>nomatch h),fun _ h=>.inl h,fun _ h=>h,fun _ h=>⟨h,rfl,rfl⟩⟩
theorem Emb.drawn (em:Emb Γ S a w):Emb Γ S a { w with drawn:=w.drawn+1 }∧Ext Γ S.H w Γ S.H { w with drawn:=w.drawn+1 }:=by
 have hx:Ext Γ S.H w Γ S.H { w with drawn:=w.drawn+1 }:=⟨fun _ _ _=>rfl,wad _,rfl,rfl,fun n h=>.inl h,fun _ h=>.inl h,fun _ h=>h,fun _ h=>⟨h,rfl,rfl⟩⟩
 have hR:∀ b B,S.H[b]?=some (.live B)→RepB { w with drawn:=w.drawn+1 } Γ b B:=fun b B hB =>
  RepB.mono (w:=w) (w':={ w with drawn:=w.drawn+1 }) (fun _ h=>h) (fun _ _=>rfl) (fun _ h=>⟨h,rfl,rfl⟩) (em.heap.alive ⟨B,hB⟩) (fun _=>rfl) (fun _ _ _ _=>⟨rfl,fun _ _=>rfl⟩) (em.heap.blk b B hB)
 refine ⟨⟨em.defers,em.size,fun i x hx'=>?_,⟨fun b B hB=>hR b B hB,em.heap.inj,em.heap.imm,em.heap.old,em.heap.al,em.heap.rows.of (fun b h=>.inl ⟨h,rfl⟩) (fun b hb hk=>.inl ⟨b,hb,hk,rfl⟩) (fun n hn=>.inl hn) (wad _),em.heap.vw⟩⟩,hx⟩
 obtain ⟨v,h1,h2⟩:=em.tmp i x hx';exact ⟨v,h1,Rp.mono (w:=w) (w':={ w with drawn:=w.drawn+1 }) (fun _ h=>h) (fun _ _=>rfl) (fun _ h=>⟨h,rfl,rfl⟩) x _ h2⟩
end
section
variable {P:Program} {sp:Spec} {L:List LSh}
theorem QK.mono {Γ0 Γ1:Cx} {H0 H1:List Hs} {w0 w1:World} {K K':Ex→St→Prop} (hx:Ext Γ0 H0 w0 Γ1 H1 w1) (hk:∀ e S,K e S→K' e S) {e:Exit} {a:Act} {w:World} (h:QK Γ1 H1 w1 K e a w):QK Γ0 H0 w0 K' e a w:=by
 obtain ⟨Γ,S,em,hx',h⟩:=h;refine ⟨Γ,S,em,hx.trans hx',?_⟩;cases e<;>first | exact hk _ _ h | exact h
theorem qnh {n k:Nat}:(Array.replicate n false).getD k false=false:=by
 rw [Array.getD_eq_getD_getElem?,Array.getElem?_replicate];split<;>rfl
theorem qtf {n:Nat}:(Array.replicate n false).toList.countP (!·)=n:=by
 rw [Array.toList_replicate,List.countP_replicate];rfl
def isK {X:Type} (K:KT X) (x:X):Ex→St→Prop:=fun e S=>K X id e S=some x
theorem zeh {X Y:Type} {K:KT X} (hK:NatK K) {f:X→Y} {e:Ex} {S:St} {y:Y} (h:K Y f e S=some y):∃ x,f x=y∧isK K x e S:=by
 rw [hK] at h;obtain ⟨x,h1,h2⟩:=Option.map_eq_some_iff.1 h;exact ⟨x,h2,h1⟩
theorem q19 {Γ:Cx} {S S':St} {a:Act} {w:World} {j:Nat} {p:List Prop} (em:Emb Γ S a w) (h:frzS S j=some (p,S')) (hp:allP p):∃ Γ',Emb Γ' S' a w∧Ext Γ S.H w Γ' S'.H w:=by
 unfold frzS at h;split at h
 case h_2=>cases h
 rename_i b s i len c hx;split at h
 case h_2=>cases h
 rename_i t xs opn hg;split at h
 case h_2=>cases h
 rename_i hs;have hs:=wai hs;cases h;have h1:=allP_one.1 hp;have hcl:qda t t xs=some xs:=by
  unfold qda;exact qcl
 have hfe:frzE S.H (.slice t) (.sl b s i len c)=⟨[i+len≤xs.length],.val (.slice (.slice t)) [(xs.drop i).take len],[(b,.dead)],[b]⟩:=by
  unfold frzE;simp only [hg,hcl,if_pos hs]
 obtain ⟨t2,b2,s2,i2,len2,c2,ys,B,e1,e2,hb,he,hrep⟩:=qxb em.heap (te:=.slice t) (x:=.sl b s i len c) (by rw [hfe];exact allP_one.2 h1)
 cases e1;cases e2;rw [hfe] at he;have hys:(xs.drop i).take len=(ys.drop i).take len:=by
  have:=congrArg Ef.v he;injection this with _ hv
  have hv':([(xs.drop i).take len]:List (List (Den t)))=[(ys.drop i).take len]:=hv;exact (List.cons.inj hv').1
 obtain ⟨ext1,emb1⟩:=q3m em.heap hb;refine ⟨{ Γ with I:=fun n=>Γ.I n∨(Γ.κ b≠0∧n=Γ.ν b)∨(Nest S.H b∧Γ.O b n) },⟨em.defers,by rw [em.size];simp,fun m x hm=>?_,emb1⟩,ext1⟩
 simp only [waw] at hm;split at hm
 ·rename_i hjm;subst hjm;split at hm
  ·rename_i hlt;cases hm;obtain ⟨v,hv,hr⟩:=em.tmp j _ (by rw [wab hlt])
   have hgy:S.T.getD j .undef=S.T[j]:=by rw [waa,wab hlt];rfl
   rw [← hgy,hx] at hr;rw [hys];exact ⟨v,hv,Ra_val.2 (hrep v hr)⟩
  ·cases hm
 ·obtain ⟨v,hv,hr⟩:=em.tmp m x hm;exact ⟨v,hv,Ra.ext em.heap ext1 hr⟩
theorem q13 (hsp:SpecOk P sp) (hfr:qcu sp) (hm:P.follows .mixedOrders=true) {ms:List Nat} {rid:Nat} {ops:Array Oper} {draw:Bool} {l:List AOp} {m:Nat} (hl:cReg P ms ops ops.toList 0=some (l,m)) :
  ∀ (js:List Nat) {X:Type} (K:KT X) (hK:NatK K) (x:X) (Γ:Cx) (S:St) (a:Act) (w:World),Emb Γ S a w→runO sp L (qsi (.reg m l (if draw then some (qcz ops.toList []) else none)) js) S K X id=some x→(Code.region rid ops draw).wp P (QK Γ S.H w (isK K x)) a w:=by
 intro js
 induction js with
 | nil =>
  intro X K hK x Γ S a w em hr;simp only [qsi] at hr;obtain ⟨em1,hx1⟩:=em.frees m
  cases draw with
  | false =>
   simp only [runO,wa2,if_false] at hr;obtain ⟨hob,hk⟩:=qbi.1 hr;refine wp_region ?_;rw [List.range_eq_range'];refine qsr hsp S.H.length ops.size 0 0 m l (by simp) (by simpa using hl) 0 Γ _ a w em1 hob fun Γ' a' w' hx em'=>?_
   exact ⟨Γ',_,em',hx1.trans hx,hk⟩
  | true =>
   simp only [runO,if_true] at hr;split at hr
   ·rename_i hchk;obtain ⟨hob,hk⟩:=qbi.1 hr;refine wp_region_any hm ?_;obtain ⟨em2,hx2⟩:=em1.drawn;have hnone:appS (recL sp S.H.length l ⟨S.T,S.H++frees m⟩) (fun k=>(Array.replicate ops.size false).getD k false) ⟨S.T,S.H++frees m⟩=⟨S.T,S.H++frees m⟩:=by
     refine qf2 _ _ _ fun k e _ hl=>?_
     rw [qnh] at hl;cases hl
    refine q1c (Γ0:=Γ) (w0:={ w with drawn:=w.drawn+1 }) hsp hfr S.H.length hl hob hchk (fun Γ' a' w' hx em'=>⟨Γ',_,em',(hx1.trans hx2).trans hx,hk⟩) ops.size (Array.replicate ops.size false) Γ a _ (by simp) qtf (fun j k hj _=>by rw [qnh] at hj;cases hj) ?_ ?_
    ·rw [hnone];exact em2
    ·rw [hnone];exact Ext.refl _ _ _
   ·split at hr
    ·rename_i r' hlit;obtain ⟨hob,hk⟩:=qbi.1 hr;refine wp_region_any hm ?_;obtain ⟨em2,hx2⟩:=em1.drawn;exact q3c (Γ0:=Γ) (w0:={ w with drawn:=w.drawn+1 }) hsp hfr S.H.length hl hlit hob (fun Γ' a' w' hx em'=>⟨Γ',_,em',(hx1.trans hx2).trans hx,hk⟩) ops.size (Array.replicate ops.size false) Γ a _ (by simp) qtf (fun j=>qnh) em2 (Ext.refl _ _ _)
    ·cases hr
 | cons j js ih =>
  intro X K hK x Γ S a w em hr;simp only [qsi,runO] at hr;split at hr
  ·rename_i p S' e;obtain ⟨hp,hk⟩:=qbi.1 hr;obtain ⟨Γ1,em1,hx1⟩:=q19 em e hp;exact wp_mono (ih K hK x Γ1 S' a w em1 hk) fun e a w h=>QK.mono hx1 (fun _ _ h=>h) h
  ·cases hr
theorem qoq (hsp:SpecOk P sp) (hfr:qcu sp) (hm:P.follows .mixedOrders=true) {ms:List Nat}:∀ (code:Code) (lm:List (List Nat)) (ac:AC) (lm':List (List Nat)),qe5 P ms code lm=some (ac,lm') →
  ∀ {X:Type} (K:KT X) (hK:NatK K) (x:X) (Γ:Cx) (S:St) (a:Act) (w:World),Emb Γ S a w→runO sp L ac S K X id=some x→code.wp P (QK Γ S.H w (isK K x)) a w:=by
 intro code
 induction code with
 | skip =>
  intro lm ac lm' hc X K hK x Γ S a w em hr;simp only [qe5,waz,wa1] at hc;obtain ⟨rfl,_⟩:=hc;exact wp_skip ⟨Γ,S,em,Ext.refl _ _ _,hr⟩
 | label l =>
  intro lm ac lm' hc X K hK x Γ S a w em hr;simp only [qe5,waz,wa1] at hc;obtain ⟨rfl,_⟩:=hc;exact wp_label ⟨Γ,S,em,Ext.refl _ _ _,hr⟩
 | scope c ih =>
  intro lm ac lm' hc X K hK x Γ S a w em hr;simp only [qe5] at hc;refine wp_scope_straight (wp_mono (ih _ _ _ hc K hK x Γ S a w em hr) fun e a' w' hq=>?_)
  obtain ⟨Γ',S',em',hx',hk⟩:=hq
  cases e with
  | normal=>exact ⟨Γ',S',em',hx',hk⟩
  | exit i=>exact ⟨Γ',S',em',hx',hk⟩
  | ret=>exact ⟨Γ',S',em',hx',hk⟩
  | goto l=>exact hk.elim
  | panic c=>exact hk.elim
  | outgrown=>exact hk.elim
 | region id ops draw =>
  intro lm ac lm' hc X K hK x Γ S a w em hr;simp only [qe5] at hc;split at hc
  ·rename_i l m hl;cases hc;exact q13 hsp hfr hm hl _ K hK x Γ S a w em hr
  ·cases hc
 | seq c1 c2 ihx ihy =>
  intro lm ac lm' hc X K hK x Γ S a w em hr;simp only [qe5] at hc;split at hc
  ·rename_i ax lm1 h1;split at hc
   ·rename_i ay lm2 h2;cases hc;simp only [runO] at hr;have hK2:NatK (seqK (fun S' K Y f=>runO sp L ay S' K Y f) K):=fun Y f e S'=>by
     cases e with
     | normal=>exact qei hK
     | exit i=>exact hK _ _ _ _
     | ret=>exact hK _ _ _ _
    refine wp_seq (wp_mono (ihx _ _ _ h1 _ hK2 x Γ S a w em hr) fun e a' w' hq=>?_)
    obtain ⟨Γ',S',em',hx',hk⟩:=hq
    cases e with
    | normal=>exact wp_mono (ihy _ _ _ h2 K hK x Γ' S' a' w' em' hk) fun e a w h=>QK.mono hx' (fun _ _ h=>h) h
    | exit i=>exact ⟨Γ',S',em',hx',hk⟩
    | ret=>exact ⟨Γ',S',em',hx',hk⟩
    | goto l=>exact hk.elim
    | panic c=>exact hk.elim
    | outgrown=>exact hk.elim
   ·cases hc
  ·cases hc
 | cond c c1 c2 ihx ihy =>
  intro lm ac lm' hc X K hK x Γ S a w em hr;simp only [qe5] at hc;split at hc
  ·rename_i c' ax lm1 h0 h1;split at hc
   ·rename_i ay lm2 h2;cases hc;simp only [runO] at hr;split at hr
    ·rename_i b hb;obtain ⟨hp,hx⟩:=qbi.1 hr;have r:=qah (qaj em h0) hp;have hv:=qgz hb r;exact wp_cond_split hv (fun h=>ihx _ _ _ h1 K hK x Γ S a w em (by rw [h] at hx;exact hx)) (fun h=>ihy _ _ _ h2 K hK x Γ S a w em (by rw [h] at hx;exact hx))
    ·split at hr
     ·rename_i pos P' hb;obtain ⟨hp,hx⟩:=qbi.1 hr;have r:=qah (qaj em h0) hp;rw [hb] at r;simp only [Ra,Rp,wa0,and_true] at r;obtain ⟨b,hv,hP⟩:=r;obtain ⟨z,hz,rfl⟩:=Option.map_eq_some_iff.1 hx;rw [qh3] at hz;refine wp_cond_split hv (fun h=>ihx _ _ _ h1 K hK z Γ S a w em ?_) (fun h=>ihy _ _ _ h2 K hK z Γ S a w em ?_)
      ·cases pos
       ·exact hz.1
       ·exact hz.2 (hP h)
      ·cases pos
       ·exact hz.2 (hP h)
       ·exact hz.1
     ·cases hr
   ·cases hc
  ·cases hc
 | block id c ih =>
  intro lm ac lm' hc X K hK x Γ S a w em hr;simp only [qe5] at hc;split at hc
  ·rename_i ax lm1 h1;cases hc;simp only [runO] at hr;refine wp_block (wp_mono (ih _ _ _ h1 _ (qw4 hK) x Γ S a w em hr) fun e a' w' hq=>?_)
   obtain ⟨Γ',S',em',hx',hk⟩:=hq
   cases e with
   | normal=>exact ⟨Γ',S',em',hx',hk⟩
   | exit i =>
    simp only [isK,blkK] at hk;simp only [Exit.inBlock];split at hk
    ·rename_i hi;have hi:i=id:=by simpa using hi
     rw [if_pos hi];exact ⟨Γ',S',em',hx',hk⟩
    ·rename_i hi;have hi:¬ i=id:=fun h=>by subst h;rw [Nat.beq_refl] at hi;cases hi
     rw [if_neg hi];exact ⟨Γ',S',em',hx',hk⟩
   | ret=>exact ⟨Γ',S',em',hx',hk⟩
   | goto l=>exact hk.elim
   | panic c=>exact hk.elim
   | outgrown=>exact hk.elim
  ·cases hc
 | loop c ih =>
  intro lm ac lm' hc X K hK x Γ S a w em hr;simp only [qe5] at hc;split at hc
  ·rename_i ax lm1 h1;cases hc;simp only [runO] at hr;split at hr
   ·rename_i ls hls;split at hr
    ·rename_i p env0 hrd;split at hr
     ·rename_i d0 hd0;obtain ⟨hp,hw⟩:=qbi.1 hr;have he0:=q23 hd0 (qvu hrd);subst he0;have hpin0:=q16 hrd;obtain ⟨Γ1,em1,hx1⟩:=q68 (asg:=asg L ax++qcv ls.sl) em em (Ext.refl _ _ _) rfl (fun _ _=>rfl) hpin0 hrd hp
      obtain ⟨n0,hn0⟩:=qcf.1 hw;refine q4j (fun n a' w'=>∃ Γ' d,qco (fun d=>runO sp L ax (qjk (asg L ax++qcv ls.sl) ls.sl ls.bl ls.pin S (qba ls.ts d)) (qkq ls K) (Lp (Dens ls.ts) X) (Lp.map id)) n d=some x ∧
       Emb Γ' (qjk (asg L ax++qcv ls.sl) ls.sl ls.bl ls.pin S (qba ls.ts d)) a' w' ∧
       Ext Γ S.H w Γ' (qjk (asg L ax++qcv ls.sl) ls.sl ls.bl ls.pin S (qba ls.ts d)).H w') ⟨n0,Γ1,d0,hn0,em1,hx1⟩ ?_
      rintro n a' w' ⟨Γ',d,hn,em',hx'⟩
      cases n with
      | zero=>cases hn
      | succ n =>
       rw [qco] at hn;have hnk:=qna (ls:=ls) hK
       cases hst:runO sp L ax (qjk (asg L ax++qcv ls.sl) ls.sl ls.bl ls.pin S (qba ls.ts d)) (qkq ls K) (Lp (Dens ls.ts) X) (Lp.map id) with
       | none=>rw [hst] at hn;cases hn
       | some r =>
        rw [hst] at hn;have hst2:runO sp L ax (qjk (asg L ax++qcv ls.sl) ls.sl ls.bl ls.pin S (qba ls.ts d)) (qkq ls K) (Lp (Dens ls.ts) X) id=some r:=by
         rw [qei hnk] at hst;obtain ⟨r',hst',hr'⟩:=Option.map_eq_some_iff.1 hst;rw [Lp.map_id] at hr';subst hr';exact hst'
        have hb:=qdo hst2;have hka:NatK (agrK (asg L ax) (qjk (asg L ax++qcv ls.sl) ls.sl ls.bl ls.pin S (qba ls.ts d)) (qkq ls K)):=fun Y f e S'=>by
         simp only [agrK];rw [q6t,hnk]
        refine wp_mono (ih _ _ _ h1 _ hka r Γ' _ a' w' em' hb) fun e a2 w2 hq=>?_
        obtain ⟨Γ2,S2,em2,hx2,hk⟩:=hq;have exitK:∀ ex,(∃ i,ex=.exit i∨ex=.ret)→agrK (asg L ax) (qjk (asg L ax++qcv ls.sl) ls.sl ls.bl ls.pin S (qba ls.ts d)) (qkq ls K) (Lp (Dens ls.ts) X) id ex S2=some r→isK K x ex S2:=fun ex hex hh=>by
         obtain ⟨_,hh⟩:=qbq.1 hh;have:K (Lp (Dens ls.ts) X) (fun x=>.out x) ex S2=some r:=by
          cases ex with
          | normal=>obtain ⟨_,h | h⟩:=hex<;>cases h
          | exit i=>exact hh
          | ret=>exact hh
         obtain ⟨x',e1,e2⟩:=zeh hK this;subst e1;simp only [waz] at hn;rw [← hn];exact e2
        cases e with
        | normal =>
         obtain ⟨hag,hk⟩:=qbq.1 hk;simp only [qkq] at hk;split at hk
         ·rename_i q env' hrd';split at hk
          ·rename_i d' hd';obtain ⟨hq,hk⟩:=qbi.1 hk;simp only [id,waz] at hk;subst hk;have he':=q23 hd' (qvu hrd');subst he';have hag':Agr (asg L ax++qcv ls.sl) S S2:=qwp.trans (hag.mono fun n hn=>wbg _ hn)
           obtain ⟨Γ3,em3,hx3⟩:=q68 (asg:=asg L ax++qcv ls.sl) em em2 (hx'.trans hx2) hag'.len hag'.get hpin0 hrd' hq;exact ⟨n,Nat.lt_succ_self n,Γ3,d',hn,em3,hx3⟩
          ·cases hk
         ·cases hk
        | exit i=>exact ⟨Γ2,S2,em2,hx'.trans hx2,exitK _ ⟨i,.inl rfl⟩ hk⟩
        | ret=>exact ⟨Γ2,S2,em2,hx'.trans hx2,exitK _ ⟨0,.inr rfl⟩ hk⟩
        | goto l=>exact hk.elim
        | panic c=>exact hk.elim
        | outgrown=>exact hk.elim
     ·cases hr
    ·cases hr
   ·cases hr
  ·cases hc
 | exit id =>
  intro lm ac lm' hc X K hK x Γ S a w em hr;simp only [qe5,waz,wa1] at hc;obtain ⟨rfl,_⟩:=hc;exact wp_exit ⟨Γ,S,em,Ext.refl _ _ _,hr⟩
 | ret =>
  intro lm ac lm' hc X K hK x Γ S a w em hr;simp only [qe5,waz,wa1] at hc;obtain ⟨rfl,_⟩:=hc;exact wp_ret ⟨Γ,S,em,Ext.refl _ _ _,hr⟩
 | _=>intro lm ac lm' hc;simp [qe5] at hc
end
def Cx.freeze (Γ:Cx) (H:List Hs):Cx:={ Γ with I:=fun n=>Γ.I n∨Wr Γ H n,A:=fun _=>False }
section
variable {w:World} {Γ:Cx} {H:List Hs}
theorem qhv (e:EmbH Γ H w):EmbH (Γ.freeze H) [] w:=by
 refine ⟨fun b B h=>by simp at h,fun b b' h=>by obtain ⟨B,h⟩:=h;simp at h,fun b h=>by obtain ⟨B,h⟩:=h;simp at h,fun n hn=>?_,fun b=>?_,Rows.nil fun _=>ql7,fun m b i f h=>by simp at h⟩
 ·rcases hn with h | ⟨b,hb,hk,rfl⟩ | ⟨b,hb,hn⟩
  ·exact e.old n h
  ·exact e.lt hb hk
  ·exact e.rows.lt b n hb hn
 ·exact ⟨fun h=>h.elim,fun ⟨x,hx,_⟩=>by simp at hx⟩
structure BlkOk (Γ:Cx) (H:List Hs) (w:World):Prop where
 blk:∀ b B,H[b]?=some (.live B)→RepB w Γ b B
 vw:∀ m b i f,H[m]?=some (.view b i f)→VwOk Γ H m b i
theorem q1a:BlkOk Γ [] w:=⟨fun b B h=>by simp at h,fun m b i f h=>by simp at h⟩
theorem EmbH.blkOk (e:EmbH Γ H w):BlkOk Γ H w:=⟨e.blk,fun m b i f h=>(e.vw m b i f h).2⟩
def Jf (Γ:Cx) (H:List Hs):Nat→Prop:=fun n=>Γ.I n∨Wr Γ H n
theorem RepC.toJ {t:Ty} {x:Den t} {cs:List Value} (h:RepC w Γ.I t x cs):RepC w (Jf Γ H) t x cs:=RepC.mono (fun _ h=>.inl h) (fun _ _=>rfl) t x cs h
theorem qif {t t':Ty} {x:Den t'} {y:Den t} {v:Value} (hc:qa9 t' t x=some y) (hr:Ra w Γ (.val t' x) v) (ht:isAgg t=false):RepC w (Jf Γ H) t y [v]:=by
 obtain ⟨e1,e2⟩:=qat hc;subst e1;subst e2;obtain ⟨cs,h1,h2⟩:=Ra_val.1 hr;have hl:=RepC.length _ _ _ h1;rw [RepC.one ht] at hl
 match cs,hl,h1,h2 with
 | [u],_,h1,h2 =>
  simp only [mkV,ht,wa2,if_false,List.headD_cons] at h2;subst h2;exact h1.toJ
theorem qe1 {x:AV} {vs:List Value} (h:Fa w Γ [x] vs):∃ v,vs=[v]∧Ra w Γ x v:=by
 match vs,h with
 | [v],h=>exact ⟨v,rfl,h.1⟩
 | [],h=>exact h.elim
 | _::_::_,h=>exact h.2.elim
theorem q6x {b:Nat} {te:Ty} {xs:List (Den te)} {opn:Bool} (h:RepB w Γ b (.arr te xs opn)) {i:Nat} (hi:i<xs.length):Γ.κ b≠0:=by
 simp only [RepB] at h;omega
theorem qv9 {b:Nat} {vs:List AV} (h:RepB w Γ b (.cells vs)):Γ.κ b≠0:=by
 simp only [RepB] at h;exact h.1
theorem q1y {b:Nat} (hb:Live H b) (hk:Γ.κ b≠0):Jf Γ H (Γ.ν b):=.inr (.inl ⟨b,hb,hk,rfl⟩)
theorem BlkOk.elem (em:BlkOk Γ H w) {b:Nat} {te:Ty} {xs:List (Den te)} {opn:Bool} (h:hres H b=some (.arr te xs opn)):ArrE w Γ b te xs∧∀ i,i<xs.length→Jf Γ H (Γ.ν b):=by
 unfold hres at h;split at h
 ·rename_i hb;have h:=Option.some.inj h;subst h;have hB:=em.blk _ _ hb;exact ⟨hB.arrE,fun i hi=>q1y ⟨_,hb⟩ (q6x hB hi)⟩
 ·rename_i n p f hb;split at h
  ·rename_i t rows ho hn;cases h;have hn:=qaw hn;have hB:=em.blk _ _ hn
   by_cases hp:p<rows.length
   ·obtain ⟨h1,h2⟩:=em.vw _ _ _ _ hb _ _ _ hn hp;have hr:=(hB.nest_row hp).rep h1 h2;refine ⟨hr.arrE,fun i hi=>?_⟩
    have hk:=q6x hr hi;exact .inr (.inr ⟨n,⟨_,_,_,hn⟩,p,by rw [← h1];exact hk,(h2 hk).symm⟩)
   ·have:rows.getD p []=[]:=by rw [waa,wac (by omega),Option.getD_none]
    rw [this];exact ⟨fun i x hx=>by simp at hx,fun i hi=>by simp at hi⟩
  ·cases h
 ·cases h
theorem qoi (em:BlkOk Γ H w) {e:Ty} {b s:Nat} {ys:List (Den e)} (h:arrElems H e b s=some ys):s=sz e∧∀ (j:Nat) (x:Den e),ys[j]?=some x→∃ cs,RepC w (Jf Γ H) e x cs∧Jf Γ H (Γ.ν b)∧qa1 w (Γ.ν b) (j*sz e) cs:=by
 unfold arrElems at h;split at h
 ·rename_i te xs opn hg
  by_cases hs:s=sz te
  ·rw [if_pos hs] at h;obtain ⟨e1,e2⟩:=qbx h;subst e1;subst e2;obtain ⟨h1,h2⟩:=em.elem hg;refine ⟨hs,fun j x hx=>?_⟩
   obtain ⟨cs,g1,g2⟩:=h1 j x hx;exact ⟨cs,g1.toJ,h2 j (List.getElem?_eq_some_iff.1 hx).1,g2⟩
  ·rw [if_neg hs] at h;cases h
 ·rename_i t rows ho hg;split at h
  ·by_cases hs:s=1
   ·rw [if_pos hs] at h;obtain ⟨e1,e2⟩:=qbx h;subst e1;subst e2;have hb:H[b]?=some (.live (.nest t ys none)):=by
     unfold hres at hg;split at hg
     ·rename_i hb;have hg:=Option.some.inj hg;subst hg;exact hb
     ·split at hg<;>cases hg
     ·cases hg
    have hB:=em.blk _ _ hb;refine ⟨hs,fun j x hx=>?_⟩
    obtain ⟨v,m1,m2⟩:=qsh (I':=Jf Γ H) hB (fun _ h=>.inl h) (fun n hn=>.inr (.inr ⟨b,⟨_,_,_,hb⟩,hn⟩)) hx
    exact ⟨[v],m1,q1y ⟨_,hb⟩ (hB.nest_ne (List.getElem?_eq_some_iff.1 hx).1),by simpa [sz] using m2⟩
   ·rw [if_neg hs] at h;cases h
  ·cases h
 ·cases h
theorem qnw (em:BlkOk Γ H w) {e:Ty} {b s i o:Nat} {p:List Prop} {y:Den e} (h:arrAt H e b s i o=some (p,y)) (hp:allP p) :
  Jf Γ H (Γ.ν b)∧∃ cs,RepC w Γ.I e y cs∧qa1 w (Γ.ν b) (i*s+o) cs:=by
 unfold arrAt at h;split at h
 ·rename_i te xs opn hg;obtain ⟨hB,hJ⟩:=em.elem hg;split at h
  ·rename_i hs;obtain ⟨rfl,rfl⟩:=hs;split at h
   ·rename_i ys hy;cases h;obtain ⟨e1,e2⟩:=qbx hy;subst e1;subst e2;have hlt:=allP_one.1 hp;rw [qu8 hlt];obtain ⟨cs,g1,g2⟩:=hB _ _ (wab hlt);exact ⟨hJ _ hlt,cs,g1,by simpa using g2⟩
   ·split at h
    ·rename_i hh;cases h;have hle:=allP_one.1 hp;obtain ⟨cs,g1,g2⟩:=qdx hB hh.1.1 e i hh.2 hle;have:=hh.1.2;exact ⟨hJ i (by omega),cs,g1,by simpa [hh.1.1] using g2⟩
    ·cases h
  ·cases h
 ·cases h
theorem qhp (em:BlkOk Γ H w):∀ (t:Ty) (cs:List AV) (vs:List Value) (p:List Prop) (y:Den t),rv H t cs=some (p,y)→allP p→Fa w Γ cs vs→RepC w (Jf Γ H) t y vs
 | .unit,cs,vs,p,y,h,hp,hf=>by
  simp only [rv] at h;split at h
  ·cases vs with
   | nil=>simp only [RepC]
   | cons=>exact hf.elim
  ·cases h
 | .prod a b,cs,vs,p,y,h,hp,hf=>by
  simp only [rv] at h;split at h
  ·rename_i p1 x q z h1 h2;cases h;obtain ⟨hp1,hp2⟩:=qag.1 hp;simp only [RepC];exact ⟨vs.take (sz a),vs.drop (sz a),(List.take_append_drop _ _).symm,qhp em a _ _ _ _ h1 hp1 (hf.take _),qhp em b _ _ _ _ h2 hp2 (hf.drop _)⟩
  ·cases h
 | .slice e,cs,vs,p,y,h,hp,hf=>by
  simp only [rv] at h;split at h
  ·rename_i t' x;obtain ⟨v,rfl,hr⟩:=qe1 hf
   cases hc:qa9 t' (.slice e) x with
   | none=>rw [hc] at h;cases h
   | some z=>rw [hc] at h;cases h;exact qif hc hr rfl
  ·rename_i t' xs c;obtain ⟨v,rfl,hr⟩:=qe1 hf
   cases hc:qa9 (.slice t') (.slice e) xs with
   | none=>rw [hc] at h;cases h
   | some z =>
    rw [hc] at h;cases h;obtain ⟨e1,e2⟩:=qat hc;cases e1;subst e2;obtain ⟨ad,hv,h1,h2,h3⟩:=qj0.1 hr;subst hv;simp only [RepC];refine ⟨ad,c,rfl,h1,h2,fun i x hx=>?_⟩
    obtain ⟨b,off,c',g1,g2,g3,g4⟩:=h3 i x hx;exact ⟨b,off,c',g1,.inl g2,g3.toJ,g4⟩
  ·rename_i b t' x;obtain ⟨v,rfl,hr⟩:=qe1 hf
   cases hc:qa9 t' (.slice e) x with
   | none=>rw [hc] at h;cases h
   | some z =>
    rw [hc] at h;cases h
    cases b with
    | true =>
     have hv:v=.slice none 0 0:=by simpa using hr.2.1 rfl
     subst hv;show RepC _ _ (.slice e) ([]:List (Den e)) _;simp only [RepC];exact ⟨none,0,rfl,wad _,fun _=>rfl,fun i x hx=>by simp at hx⟩
    | false=>exact qif hc (hr.2.2 rfl).1 rfl
  ·obtain ⟨v,rfl,hr⟩:=qe1 hf;cases h;have hv:v=.slice none 0 0:=by simpa using hr.2.1 rfl
   subst hv;simp only [RepC];exact ⟨none,0,rfl,wad _,fun _=>rfl,fun i x hx=>by simp at hx⟩
  ·rename_i b s i len c;obtain ⟨v,rfl,hr⟩:=qe1 hf;split at h
   ·rename_i ys hy;cases h;obtain ⟨rfl,hel⟩:=qoi em hy;obtain ⟨hA,ad,cap,hv,hcap,hoff,hle⟩:=qca.1 hr;have hil:i+len≤ys.length:=allP_one.1 hp;have hlen:((ys.drop i).take len).length=len:=by rw [wan,wav];omega
    subst hv;simp only [RepC];refine ⟨ad,cap,by rw [hlen],by rw [hlen];exact hle,fun hn=>(by apply Classical.byContradiction;intro hc;rw [hoff hc] at hn;cases hn),fun j x hx=>?_⟩
    have hj:j<len:=by
     rcases Nat.lt_or_ge j ((ys.drop i).take len).length with h | h
     ·omega
     ·rw [nth,wac h] at hx;cases hx
    have hx:((ys.drop i).take len)[j]?=some x:=hx;rw [wat,if_pos hj,wbl] at hx;obtain ⟨cs,g1,g2,g3⟩:=hel _ _ hx;exact ⟨_,_,cs,hoff (by omega),g2,g1,by rw [← Nat.add_mul];exact g3⟩
   ·cases h
  ·cases h
 | .optr e,cs,vs,p,y,h,hp,hf=>by
  simp only [rv] at h;split at h
  ·rename_i t' x;obtain ⟨v,rfl,hr⟩:=qe1 hf;split at h
   ·rename_i z hc;cases h;exact qif hc hr rfl
   ·cases hc:qa9 t' (.ptr e) x with
    | none=>rw [hc] at h;cases h
    | some z =>
     rw [hc] at h;cases h;have:=qif (H:=H) hc hr rfl;simp only [RepC] at this ⊢;obtain ⟨b,off,c,g1,g2,g3,g4⟩:=this;exact .inr ⟨z,rfl,b,off,c,g1,g2,g3,g4⟩
  ·rename_i b s i o;obtain ⟨v,rfl,hr⟩:=qe1 hf;obtain ⟨hA,rfl⟩:=qc3.1 hr;simp only [RepC];split at h
   ·rename_i us hu
    cases hx:rv H e us with
    | none=>rw [hx] at h;cases h
    | some r =>
     obtain ⟨p',z⟩:=r;rw [hx] at h;cases h;unfold cellsAt at hu;split at hu
     ·rename_i ws hg;cases hu;obtain ⟨c,k1,k2⟩:=qnd (em.blk b _ (qaw hg)) (i*s+o) (sz e);exact .inr ⟨z,rfl,_,_,c,rfl,q1y ⟨_,qaw hg⟩ (qv9 (em.blk b _ (qaw hg))),qhp em e _ _ _ _ hx hp k1,k2⟩
     ·cases hu
   ·cases hx:arrAt H e b s i o with
    | none=>rw [hx] at h;cases h
    | some r =>
     obtain ⟨p',z⟩:=r;rw [hx] at h;cases h;obtain ⟨hl,c,k1,k2⟩:=qnw em hx hp;exact .inr ⟨z,rfl,_,_,c,rfl,hl,k1.toJ,k2⟩
  ·cases h
 | .ptr e,cs,vs,p,y,h,hp,hf=>by
  simp only [rv] at h;split at h
  ·rename_i t' x;obtain ⟨v,rfl,hr⟩:=qe1 hf;split at h
   ·rename_i z hc;cases h;exact qif hc hr rfl
   ·cases hc:qa9 t' (.optr e) x with
    | none=>rw [hc] at h;cases h
    | some z =>
     rw [hc] at h;cases h;have:=qif (H:=H) hc hr rfl;simp only [RepC] at this ⊢
     rcases this with ⟨rfl,_⟩ | ⟨u,rfl,b,off,c,g1,g2,g3,g4⟩
     ·exact absurd (allP_one.1 hp) (by simp)
     ·exact ⟨b,off,c,g1,g2,g3,g4⟩
  ·rename_i b s i o;obtain ⟨v,rfl,hr⟩:=qe1 hf;obtain ⟨hA,rfl⟩:=qc3.1 hr;simp only [RepC];split at h
   ·rename_i us hu;unfold cellsAt at hu;split at hu
    ·rename_i ws hg;cases hu;obtain ⟨c,k1,k2⟩:=qnd (em.blk b _ (qaw hg)) (i*s+o) (sz e);exact ⟨_,_,c,rfl,q1y ⟨_,qaw hg⟩ (qv9 (em.blk b _ (qaw hg))),qhp em e _ _ _ _ h hp k1,k2⟩
    ·cases hu
   ·obtain ⟨hl,c,k1,k2⟩:=qnw em h hp;exact ⟨_,_,c,rfl,hl,k1.toJ,k2⟩
  ·cases h
 | .map k v,cs,vs,p,y,h,hp,hf=>by
  simp only [rv] at h;split at h
  ·rename_i t' x;obtain ⟨u,rfl,hr⟩:=qe1 hf
   cases hc:qa9 t' (.map k v) x with
   | none=>rw [hc] at h;cases h
   | some z=>rw [hc] at h;cases h;exact qif hc hr rfl
  ·rename_i b;obtain ⟨u,rfl,hr⟩:=qe1 hf;split at h
   ·rename_i k' v' es hg
    cases hc:qa9 (.map k' v') (.map k v) es with
    | none=>rw [hc] at h;cases h
    | some z =>
     rw [hc] at h;cases h;obtain ⟨e1,e2⟩:=qat hc;cases e1;subst e2;have hB:=em.blk b _ (qaw hg);simp only [Ra,Rp,wa0,and_true] at hr;obtain ⟨hA,rfl⟩:=hr;simp only [RepB] at hB;obtain ⟨hk0,ents,cl,h1,h2,h3⟩:=hB;simp only [RepC];refine ⟨Γ.ν b,ents,cl,rfl,q1y ⟨_,qaw hg⟩ hk0,h1,h2,fun i x hx=>?_⟩
     obtain ⟨ent,ck,cv,m1,m2,m3,m4,m5⟩:=h3 i x hx;exact ⟨ent,ck,cv,m1,m2.toJ,m3,m4.toJ,m5⟩
   ·cases h
  ·cases h
 | .int k,cs,vs,p,y,h,hp,hf=>by
  simp only [rv] at h;split at h
  ·rename_i t' x;obtain ⟨v,rfl,hr⟩:=qe1 hf
   cases hc:qa9 t' (.int k) x with
   | none=>rw [hc] at h;cases h
   | some z=>rw [hc] at h;cases h;exact qif hc hr rfl
  ·cases h
 | .bool,cs,vs,p,y,h,hp,hf=>by
  simp only [rv] at h;split at h
  ·rename_i t' x;obtain ⟨v,rfl,hr⟩:=qe1 hf
   cases hc:qa9 t' .bool x with
   | none=>rw [hc] at h;cases h
   | some z=>rw [hc] at h;cases h;exact qif hc hr rfl
  ·cases h
 | .oth,cs,vs,p,y,h,hp,hf=>by
  simp only [rv] at h;split at h
  ·rename_i t' x;obtain ⟨v,rfl,hr⟩:=qe1 hf
   cases hc:qa9 t' .oth x with
   | none=>rw [hc] at h;cases h
   | some z=>rw [hc] at h;cases h;exact qif hc hr rfl
  ·cases h
theorem qfy (em:BlkOk Γ H w) {t:Ty} {x:AV} {v:Value} {p:List Prop} {y:Den t} (h:rvV H t x=some (p,y)) (hp:allP p) (hr:Ra w Γ x v):RepV w (Jf Γ H) t y v:=by
 unfold rvV at h;split at h
 ·rename_i hag;split at h
  ·rename_i t' z
   cases hc:qa9 t' t z with
   | none=>rw [hc] at h;cases h
   | some u =>
    rw [hc] at h;cases h;obtain ⟨e1,e2⟩:=qat hc;subst e1;subst e2;obtain ⟨cs,h1,h2⟩:=Ra_val.1 hr;exact ⟨cs,h1.toJ,h2⟩
  ·rename_i l;split at h
   ·rename_i hl;simp only [Ra,Rp] at hr;obtain ⟨us,h1,h2,h3⟩:=hr;have h4:v=.agg us.toArray:=by simpa using h1
    refine ⟨us,qhp em t (ofAV l) us p y h hp (qdm hl h2),?_⟩;rw [h4];simp [mkV,hag]
   ·cases h
  ·cases h
 ·rename_i hag;have hag':isAgg t=false:=by simpa using hag
  have:=qhp em t [x] [v] p y h hp ⟨hr,trivial⟩;exact ⟨[v],this,by simp [mkV,hag']⟩
end
universe u
inductive AT where
 | d (t:Ty)
 | fn (g:FuncId) (caps:List Ty)
def AT.ts:AT→List Ty
 | .d t=>[t]
 | .fn _ caps=>caps
def tsA:List AT→List Ty
 | []=>[]
 | x::l=>x.ts++tsA l
def Cur:List Ty→Type u→Type u
 | [],R=>R
 | t::ts,R=>Den t→Cur ts R
def appC {R:Type u}:(ts:List Ty)→Cur ts R→List AV→Option R
 | [],f,_=>some f
 | t::ts,f,x::xs=>match asD t x with
  | some y=>appC ts (f y) xs
  | none=>none
 | _::_,_,[]=>none
def allD:List Ty→(List AV→Prop)→Prop
 | [],K=>K []
 | t::ts,K=>∀ x:Den t,allD ts fun l=>K (.val t x::l)
theorem qj3:∀ {ts:List Ty} {K:List AV→Prop} {env:List AV},allD ts K→qc5 ts env→K env
 | [],K,[],h,_=>h
 | t::ts,K,x::xs,h,he=>by
  obtain ⟨⟨y,rfl⟩,he⟩:=he;exact qj3 (K:=fun l=>K (.val t y::l)) (h y) he
 | [],_,_::_,_,he=>he.elim
 | _::_,_,[],_,he=>he.elim
def qgu:(rs:List Ty)→Dens rs→AV
 | [t],x=>.val t x.1
 | rs,x=>.tup (toAV (qba rs x))
def qgo:List AT→List AV→List AV
 | [],_=>[]
 | .d _::l,env=>env.headD .undef::qgo l env.tail
 | .fn g caps::l,env=>.fn g (toAV (env.take caps.length))::qgo l (env.drop caps.length)
structure Con where
 f:FuncId
 ats:List AT
 rs:List Ty
 pre:List AV→Option (List Prop)
 F:List AV→Option (Dens rs)
def Con.Ok (P:Program) (c:Con):Prop:=qbr P c.f=true ∧
 ∀ (Γ:Cx) (w:World) (env:List AV) (p:List Prop) (r:Dens c.rs) (vs:List Value),(∀ b,¬ Γ.A b)→EmbH Γ [] w→qc5 (tsA c.ats) env→c.pre env=some p→c.F env=some r→allP p→Fa w Γ (qgo c.ats env) vs →
  Calls P c.f vs.toArray w fun en w'=>∃ v Γ',en=.returned v∧Ext Γ [] w Γ' [] w'∧EmbH Γ' [] w'∧Ra w' Γ' (qgu c.rs r) v
def resD (H:List Hs):List Ty→List AV→Option (List Prop×List AV)
 | [],[]=>some ([],[])
 | t::ts,x::xs=>match rvV H t x,resD H ts xs with
  | some (p,y),some (q,l)=>some (p++q,.val t y::l)
  | _,_=>none
 | _,_=>none
def resA (H:List Hs):List AT→List AV→Option (List Prop×List AV)
 | [],[]=>some ([],[])
 | .d t::l,x::xs=>match rvV H t x,resA H l xs with
  | some (p,y),some (q,r)=>some (p++q,.val t y::r)
  | _,_=>none
 | .fn g caps::l,.fn g' cs::xs=>if Nat.beq g g'=true∧isL cs=true then match resD H caps (ofAV cs),resA H l xs with
   | some (p,ys),some (q,r)=>some (p++q,ys++r)
   | _,_=>none
  else none
 | _,_=>none
def qyv:List Ty→Bool
 | []=>true
 | t::ts=>flat t && qyv ts
def capB:AV→List Nat
 | .cons (.ref b ..) l=>b::capB l
 | .cons (.sl b ..) l=>b::capB l
 | .cons _ l=>capB l
 | _=>[]
def slB:List AV→List Nat
 | []=>[]
 | .sl b ..::l=>b::slB l
 | .fn _ c::l=>capB c++slB l
 | .agg c::l=>capB c++slB l
 | _::l=>slB l
def valB:List AV→List Nat
 | []=>[]
 | .sl b ..::l=>b::valB l
 | .mref b::l=>b::valB l
 | _::l=>valB l
def qoe (H:List Hs):List Nat→List Nat
 | []=>[]
 | b::K=>(match hget H b with
  | some (.cells vs)=>valB vs
  | some (.mix vs _ _)=>valB vs
  | _=>[])++qoe H K
def qe7 (H:List Hs) (args:List AV):List Nat:=slB args++qoe H (slB args)
def memL (n:Nat):List Nat→Bool
 | []=>false
 | x::l=>Nat.beq x n || memL n l
theorem qh8 {n:Nat}:∀ {l:List Nat},memL n l=true↔n∈l
 | []=>by simp [memL]
 | x::l=>by simp only [memL,wbe,qh8 (l:=l),List.mem_cons,Nat.beq_eq];exact ⟨fun h=>h.imp Eq.symm id,fun h=>h.imp Eq.symm id⟩
def qc7 (K:List Nat):Nat→List Hs→List Hs
 | _,[]=>[]
 | n,.live B::H=>(if memL n K then .live B else .dead)::qc7 K (n+1) H
 | n,h::H=>h::qc7 K (n+1) H
def Con.eff (c:Con) (H:List Hs) (args:List AV):Option Ef :=
 match resA [] c.ats args with
 | some (p,env)=>match c.pre env,c.F env with
  | some q,some r=>some ⟨p++q,qgu c.rs r,[],[]⟩
  | _,_=>none
 | none=>match qyv c.rs with
  | true=>match resA H c.ats args with
   | some (p,env)=>match c.pre env,c.F env with
    | some q,some r=>some ⟨p++q,qgu c.rs r,[],qbj 0 H⟩
    | _,_=>none
   | none=>none
  | false=>match resA (qc7 (qe7 H args) 0 H) c.ats args with
   | some (p,env)=>match c.pre env,c.F env with
    | some q,some r=>some ⟨p++q,qgu c.rs r,(qe7 H args).map fun b=>(b,.dead),qbj 0 H⟩
    | _,_=>none
   | none=>none
def fits:List AT→List AV→Bool
 | [],[]=>true
 | .d _::l,_::xs=>fits l xs
 | .fn g _::l,.fn g' _::xs=>Nat.beq g g' && fits l xs
 | _,_=>false
def qxk:List AV→Bool
 | .cons _ _::_=>false
 | _=>true
def spOf:List Con→Spec
 | [],_,_,_,_=>.fail
 | c::cs,f,H,base,args=>match Nat.beq c.f f && (fits c.ats args && qxk args) with
  | true=>match c.eff H (qsp args).2 with
   | some e=>e.add (qsp args).1
   | none=>.fail
  | false=>spOf cs f H base args
section
variable {w:World} {Γ:Cx} {H:List Hs}
theorem qpv (em:BlkOk Γ H w):∀ {ts:List Ty} {xs:List AV} {p:List Prop} {env:List AV} {vs:List Value},resD H ts xs=some (p,env)→allP p→Fa w Γ xs vs→qc5 ts env∧Fa w (Γ.freeze H) env vs
 | [],[],p,env,vs,h,_,hf=>by
  simp only [resD,waz,wa1] at h;obtain ⟨_,rfl⟩:=h
  cases vs with
  | nil=>exact ⟨trivial,trivial⟩
  | cons=>exact hf.elim
 | t::ts,x::xs,p,env,vs,h,hp,hf=>by
  simp only [resD] at h;split at h
  ·rename_i p1 y q l h1 h2;cases h;obtain ⟨hp1,hp2⟩:=qag.1 hp
   cases vs with
   | nil=>exact hf.elim
   | cons v vs =>
    obtain ⟨k1,k2⟩:=qpv em h2 hp2 hf.2;exact ⟨⟨⟨y,rfl⟩,k1⟩,Ra_val.2 (qfy em h1 hp1 hf.1),k2⟩
  ·cases h
 | [],_::_,_,_,_,h,_,_=>by simp [resD] at h
 | _::_,[],_,_,_,h,_,_=>by simp [resD] at h
theorem qfp (em:BlkOk Γ H w):∀ {ats:List AT} {xs:List AV} {p:List Prop} {env:List AV} {vs:List Value},resA H ats xs=some (p,env)→allP p→Fa w Γ xs vs→qc5 (tsA ats) env∧Fa w (Γ.freeze H) (qgo ats env) vs
 | [],[],p,env,vs,h,_,hf=>by
  simp only [resA,waz,wa1] at h;obtain ⟨_,rfl⟩:=h
  cases vs with
  | nil=>exact ⟨trivial,trivial⟩
  | cons=>exact hf.elim
 | .d t::l,x::xs,p,env,vs,h,hp,hf=>by
  simp only [resA] at h;split at h
  ·rename_i p1 y q r h1 h2;cases h;obtain ⟨hp1,hp2⟩:=qag.1 hp
   cases vs with
   | nil=>exact hf.elim
   | cons v vs =>
    obtain ⟨k1,k2⟩:=qfp em h2 hp2 hf.2;exact ⟨⟨⟨y,rfl⟩,k1⟩,Ra_val.2 (qfy em h1 hp1 hf.1),k2⟩
  ·cases h
 | .fn g caps::l,x::xs,p,env,vs,h,hp,hf=>by
  cases x with
  | fn g' cs =>
   simp only [resA] at h;split at h
   ·rename_i hh;obtain ⟨hg,hl⟩:=hh;have hg:g=g':=by simpa using hg
    subst hg;split at h
    ·rename_i p1 ys q r h1 h2;cases h;obtain ⟨hp1,hp2⟩:=qag.1 hp
     cases vs with
     | nil=>exact hf.elim
     | cons v vs =>
      obtain ⟨k1,k2⟩:=qfp em h2 hp2 hf.2;have hx:=hf.1;simp only [Ra,Rp,wa0,and_true] at hx;obtain ⟨us,hv,hr⟩:=hx;obtain ⟨m1,m2⟩:=qpv em h1 hp1 (qdm hl hr);refine ⟨m1.app k1,?_⟩;have hlen:ys.length=caps.length:=m1.length;simp only [qgo];rw [← hlen,List.take_left',List.drop_left']
      ·refine ⟨?_,k2⟩;simp only [Ra,Rp,wa0,and_true];exact ⟨us,hv,qds.2 m2⟩
      ·rfl
      ·rfl
    ·cases h
   ·cases h
  | _=>simp [resA] at h
 | [],_::_,_,_,_,h,_,_=>by simp [resA] at h
 | .d _::_,[],_,_,_,h,_,_=>by simp [resA] at h
 | .fn _ _::_,[],_,_,_,h,_,_=>by simp [resA] at h
theorem ql8 {w w':World} {I I':Nat→Prop}:∀ {t:Ty} {x:Den t} {cs:List Value},flat t=true→RepC w I t x cs→RepC w' I' t x cs
 | .int k,x,cs,_,h=>by simpa only [RepC] using h
 | .bool,x,cs,_,h=>by simpa only [RepC] using h
 | .unit,x,cs,_,h=>by simpa only [RepC] using h
 | .prod a b,x,cs,hf,h=>by
  simp only [flat,wa3] at hf;simp only [RepC] at h ⊢;obtain ⟨c1,c2,e,h1,h2⟩:=h;exact ⟨c1,c2,e,ql8 hf.1 h1,ql8 hf.2 h2⟩
 | .slice _,_,_,hf,_=>by cases hf
 | .ptr _,_,_,hf,_=>by cases hf
 | .optr _,_,_,hf,_=>by cases hf
 | .map _ _,_,_,hf,_=>by cases hf
 | .oth,_,_,hf,_=>by cases hf
theorem qxg {w w':World} {Γ Γ':Cx} {t:Ty} {x:Den t} {v:Value} (hf:flat t=true) (h:Ra w Γ (.val t x) v):Ra w' Γ' (.val t x) v:=by
 obtain ⟨cs,h1,h2⟩:=Ra_val.1 h;exact Ra_val.2 ⟨cs,ql8 hf h1,h2⟩
theorem qoc {w w':World} {Γ Γ':Cx}:∀ {ts:List Ty} {x:Dens ts} {vs:List Value},qyv ts=true→Rp w Γ (toAV (qba ts x)) vs→Rp w' Γ' (toAV (qba ts x)) vs
 | [],x,vs,_,h=>by simpa only [qba,toAV,Rp] using h
 | t::ts,x,vs,hf,h=>by
  simp only [qyv,wa3] at hf;simp only [qba,toAV,Rp] at h ⊢;obtain ⟨v,us,e,h1,h2⟩:=h;refine ⟨v,us,e,?_,qoc hf.2 h2⟩;have:=qxg (w':=w') (Γ':=Γ') hf.1 (show Ra w Γ (.val t x.1) v by simp only [Ra,Rp];exact h1)
  simpa only [Ra,Rp] using this
theorem q3w {w w':World} {Γ Γ':Cx} {rs:List Ty} {r:Dens rs} {v:Value} (hf:qyv rs=true) (h:Ra w Γ (qgu rs r) v):Ra w' Γ' (qgu rs r) v:=by
 match rs,r,h with
 | [],r,h =>
  simp only [qgu,Ra,Rp,wa0,and_true] at h ⊢;obtain ⟨us,e,h⟩:=h;exact ⟨us,e,qoc (ts:=[]) (by rfl) h⟩
 | [t],r,h =>
  simp only [qyv,Bool.and_true] at hf;exact qxg hf h
 | t::u::ts,r,h =>
  simp only [qgu,Ra,Rp,wa0,and_true] at h ⊢;obtain ⟨us,e,h⟩:=h;exact ⟨us,e,qoc hf h⟩
end
section
variable {w w':World} {Γ Γ1:Cx} {H:List Hs}
theorem qrl {Γ':Cx} (hI:∀ n,Γ.I n→Γ'.I n):∀ {ts:List Ty} {x:Dens ts} {vs:List Value},Rp w Γ (toAV (qba ts x)) vs→Rp w Γ' (toAV (qba ts x)) vs
 | [],x,vs,h=>by simpa only [qba,toAV,Rp] using h
 | t::ts,x,vs,h=>by
  simp only [qba,toAV,Rp] at h ⊢;obtain ⟨v,us,e,⟨u,e1,h1⟩,h2⟩:=h;exact ⟨v,us,e,⟨u,e1,h1.mono hI (fun _ _=>rfl)⟩,qrl hI h2⟩
theorem q0y {Γ':Cx} (hI:∀ n,Γ.I n→Γ'.I n) {rs:List Ty} {r:Dens rs} {v:Value} (h:Ra w Γ (qgu rs r) v):Ra w Γ' (qgu rs r) v:=by
 match rs,r,h with
 | [],r,h =>
  simp only [qgu,Ra,Rp,wa0,and_true] at h ⊢;obtain ⟨us,e,h⟩:=h;exact ⟨us,e,qrl (ts:=[]) hI h⟩
 | [t],r,h =>
  exact Ra_val.2 ((Ra_val.1 h).mono hI (fun _ _=>rfl))
 | t::u::ts,r,h =>
  simp only [qgu,Ra,Rp,wa0,and_true] at h ⊢;obtain ⟨us,e,h⟩:=h;exact ⟨us,e,qrl hI h⟩
theorem ql0 {Γ:Cx} {n:Nat}:¬ Wr Γ [] n:=fun h=>by
 rcases h with ⟨b,⟨B,h⟩,_⟩ | ⟨b,h,_⟩
 ·simp at h
 ·exact ql7 h
theorem qog (e:EmbH Γ H w):EmbH (Γ.freeze []) [] w:=by
 refine ⟨fun b B h=>by simp at h,fun b b' h=>by obtain ⟨B,h⟩:=h;simp at h,fun b h=>by obtain ⟨B,h⟩:=h;simp at h,fun n hn=>?_,fun b=>?_,Rows.nil fun _=>ql7,fun m b i f h=>by simp at h⟩
 ·rcases hn with h | h
  ·exact e.old n h
  ·exact absurd h ql0
 ·exact ⟨fun h=>h.elim,fun ⟨x,hx,_⟩=>by simp at hx⟩
theorem qpi (e:EmbH Γ H w) {I:Nat→Prop} (hfr:∀ n,n<w.heap.size→w'.heap[n]?=w.heap[n]?) (hs:w.heap.size≤w'.heap.size) (ho:w'.os=w.os) (hout:w'.output=w.output)
  (hmi:∀ n,Γ.I n→I n) (him:∀ n,I n→Γ.I n∨w.heap.size≤n) (hold:∀ n,I n→n<w'.heap.size):Ext Γ H w { Γ with I:=I } H w'∧EmbH { Γ with I:=I } H w':=by
 refine ⟨⟨fun n hn _=>hfr n hn,hs,ho,hout,fun n hw=>.inl hw,fun n hn=>(him n hn).imp id .inr,hmi,fun _ h=>⟨h,rfl,rfl⟩⟩,?_⟩
 refine ⟨fun b B hB=>?_,e.inj,fun b hb hk hI=>?_,hold,e.al,e.rows.sub (fun _ _ h=>h) him hs,e.vw⟩
 ·exact RepB.mono (w:=w) (w':=w') (Γ:=Γ) (Γ':={ Γ with I:=I }) hmi (fun b hb=>hfr b (e.old b hb)) (fun _ h=>⟨h,rfl,rfl⟩) (e.alive ⟨B,hB⟩) (fun hk=>hfr _ (e.lt ⟨B,hB⟩ hk)) (fun t r o h=>⟨rfl,fun n hn=>hfr n (e.rows.lt b n ⟨t,r,o,h▸hB⟩ hn)⟩) (e.blk b B hB)
 ·rcases him _ hI with h | h
  ·exact e.imm b hb hk h
  ·have:=e.lt hb hk;have h':w.heap.size≤Γ.ν b:=h;omega
theorem qc9 {K:List Nat}:∀ {H:List Hs} {n b:Nat},(qc7 K n H)[b]?=(H[b]?).map fun h=>match h with
  | .live B=>if memL (n+b) K then .live B else .dead
  | h=>h
 | [],n,b=>by simp [qc7]
 | h::H,n,0=>by cases h<;>simp [qc7]
 | h::H,n,b+1=>by
  have ih:=qc9 (K:=K) (H:=H) (n:=n+1) (b:=b);have e:n+1+b=n+(b+1):=by omega
  rw [e] at ih;cases h<;>simpa [qc7] using ih
theorem qbc {K:List Nat} {H:List Hs} {b:Nat} {B:Blk} (h:(qc7 K 0 H)[b]?=some (.live B)):H[b]?=some (.live B)∧b∈K:=by
 rw [qc9] at h
 cases hb:H[b]? with
 | none=>rw [hb] at h;cases h
 | some x =>
  rw [hb] at h
  cases x with
  | live B' =>
   simp only [Option.map_some,waz,wa7] at h;split at h
   ·rename_i hc;cases h;exact ⟨rfl,qh8.1 hc⟩
   ·cases h
  | free=>simp at h
  | dead=>simp at h
  | view b i f=>simp at h
theorem qk1 {K:List Nat} {H:List Hs} {m b i:Nat} {f:Bool} (h:(qc7 K 0 H)[m]?=some (.view b i f)):H[m]?=some (.view b i f):=by
 rw [qc9] at h
 cases hb:H[m]? with
 | none=>rw [hb] at h;cases h
 | some x =>
  rw [hb] at h
  cases x with
  | live B' =>
   simp only [Option.map_some,waz,wa7] at h;split at h<;>cases h
  | free=>simp at h
  | dead=>simp at h
  | view b i f=>simpa using h
theorem qr9 {K:List Nat} (e:EmbH Γ H w):EmbH Γ (qc7 K 0 H) w:=by
 refine ⟨fun b B h=>e.blk b B (qbc h).1,fun b b' ⟨B,h⟩ ⟨B',h'⟩=>e.inj b b' ⟨B,(qbc h).1⟩ ⟨B',(qbc h').1⟩,fun b ⟨B,h⟩=>e.imm b ⟨B,(qbc h).1⟩,e.old,fun b=>?_,e.rows.sub (fun _ _ h=>(qbc h).1) (fun n h=>.inl h) (wad _),
  e.vw_keep (fun _ h=>⟨h,rfl,rfl⟩) (fun m b i f h=>qk1 h) fun b t rows ho _ h=>⟨rfl,t,rows,ho,(qbc h).1,wad _⟩⟩
 rw [e.al b];constructor
 ·rintro ⟨h,hb,hf⟩;rw [qc9,hb]
  cases h with
  | free=>exact absurd rfl hf
  | dead=>exact ⟨.dead,rfl,hf⟩
  | view c i f=>exact ⟨_,rfl,hf⟩
  | live B =>
   simp only [Option.map_some];split
   ·exact ⟨_,rfl,by simp⟩
   ·exact ⟨_,rfl,by simp⟩
 ·rintro ⟨h,hb,hf⟩;rw [qc9] at hb
  cases hH:H[b]? with
  | none=>rw [hH] at hb;cases hb
  | some x =>
   refine ⟨x,rfl,?_⟩;rintro rfl;rw [hH] at hb;simp at hb;exact hf hb.symm
theorem qh6:∀ {K:List Nat} {H:List Hs} {b:Nat},(qar H (K.map fun b=>(b,.dead)))[b]?=if b∈K∧b<H.length then some .dead else H[b]?
 | [],H,b=>by simp [qar]
 | k::K,H,b=>by
  rw [wbd,qar,qh6,waj]
  by_cases hb:b∈K∧b<H.length
  ·rw [if_pos hb,if_pos ⟨wam _ hb.1,hb.2⟩]
  ·rw [if_neg hb,waw]
   by_cases hk:k=b
   ·subst hk
    by_cases hl:k<H.length
    ·rw [if_pos rfl,if_pos hl,if_pos ⟨way ..,hl⟩]
    ·rw [if_pos rfl,if_neg hl,if_neg (fun h=>hl h.2)]
     exact (wac (by omega)).symm
   ·rw [if_neg hk,if_neg];rintro ⟨h1,h2⟩
    rcases List.mem_cons.1 h1 with h | h
    ·exact hk h.symm
    ·exact hb ⟨h,h2⟩
theorem qb7 {K:List Nat} {H:List Hs} {b:Nat} {B:Blk} (h:(qar H (K.map fun b=>(b,.dead)))[b]?=some (.live B)):H[b]?=some (.live B)∧b∉K:=by
 rw [qh6] at h;split at h
 ·cases h
 ·rename_i hn;refine ⟨h,fun hb=>hn ⟨hb,?_⟩⟩
  exact (List.getElem?_eq_some_iff.1 h).1
theorem q14 {K:List Nat} {H:List Hs} {m b i:Nat} {f:Bool} (h:(qar H (K.map fun b=>(b,.dead)))[m]?=some (.view b i f)):H[m]?=some (.view b i f):=by
 rw [qh6] at h;split at h
 ·cases h
 ·exact h
theorem qmy (e:EmbH Γ H w) {K:List Nat} (hK:∀ b∈K,Γ.A b) {I:Nat→Prop} (hfr:∀ n,n<w.heap.size→w'.heap[n]?=w.heap[n]?) (hs:w.heap.size≤w'.heap.size) (ho:w'.os=w.os) (hout:w'.output=w.output)
  (hmi:∀ n,Γ.I n→I n) (him:∀ n,I n→(Γ.I n∨Wr Γ (qc7 K 0 H) n)∨w.heap.size≤n) (hold:∀ n,I n→n<w'.heap.size) :
  Ext Γ H w { Γ with I:=I } (qar H (K.map fun b=>(b,.dead))) w'∧EmbH { Γ with I:=I } (qar H (K.map fun b=>(b,.dead))) w':=by
 refine ⟨⟨fun n hn _=>hfr n hn,hs,ho,hout,fun n hw=>.inl (hw.sub fun _ _ h=>(qb7 h).1),fun n hn=>?_,hmi,fun _ h=>⟨h,rfl,rfl⟩⟩,?_⟩
 ·rcases him n hn with (h | hw) | h
  ·exact .inl h
  ·exact .inr (.inl (hw.sub fun _ _ h=>(qbc h).1))
  ·exact .inr (.inr h)
 ·refine ⟨fun b B hB=>?_,fun b b' ⟨B,h⟩ ⟨B',h'⟩=>e.inj b b' ⟨B,(qb7 h).1⟩ ⟨B',(qb7 h').1⟩,fun b ⟨B,hb⟩ hk hI=>?_,hold,fun b=>?_,
   ⟨fun b b' n ⟨t,r,o,h⟩ ⟨t',r',o',h'⟩=>e.rows.dis b b' n ⟨t,r,o,(qb7 h).1⟩ ⟨t',r',o',(qb7 h').1⟩,fun b b' n ⟨t,r,o,h⟩ ⟨B',h'⟩=>e.rows.main b b' n ⟨t,r,o,(qb7 h).1⟩ ⟨B',(qb7 h').1⟩,fun b n ⟨t,r,o,h⟩ ho hI=>?_,fun b n ⟨t,r,o,h⟩ ho=>Nat.lt_of_lt_of_le (e.rows.lt b n ⟨t,r,o,(qb7 h).1⟩ ho) hs,fun b i i' ⟨t,r,o,h⟩=>e.rows.one b i i' ⟨t,r,o,(qb7 h).1⟩⟩,
   e.vw_keep (Γ':={ Γ with I:=I }) (fun _ h=>⟨h,rfl,rfl⟩) (fun m b i f h=>q14 h) fun b t rows ho _ h=>⟨rfl,t,rows,ho,(qb7 h).1,wad _⟩⟩
  ·have hB:=(qb7 hB).1;exact RepB.mono (w:=w) (w':=w') (Γ:=Γ) (Γ':={ Γ with I:=I }) hmi (fun b hb=>hfr b (e.old b hb)) (fun _ h=>⟨h,rfl,rfl⟩) (e.alive ⟨B,hB⟩) (fun hk=>hfr _ (e.lt ⟨B,hB⟩ hk)) (fun t r o h=>⟨rfl,fun n hn=>hfr n (e.rows.lt b n ⟨t,r,o,h▸hB⟩ hn)⟩) (e.blk b B hB)
  ·obtain ⟨h1,h2⟩:=qb7 hb
   rcases him _ hI with (h | ⟨b',⟨B',hb'⟩,hk',he⟩ | ⟨b',⟨t,r,o,hb'⟩,hn⟩) | h
   ·exact e.imm b ⟨B,h1⟩ hk h
   ·have:=e.inj b' b ⟨B',(qbc hb').1⟩ ⟨B,h1⟩ hk' hk he;exact h2 (this▸(qbc hb').2)
   ·exact e.rows.main b' b _ ⟨t,r,o,(qbc hb').1⟩ ⟨B,h1⟩ hk hn rfl
   ·have:=e.lt ⟨B,h1⟩ hk;have h':w.heap.size≤Γ.ν b:=h;omega
  ·refine (e.al b).trans ?_;rw [qh6]
   by_cases hb:b∈K∧b<H.length
   ·rw [if_pos hb];exact ⟨fun _=>⟨.dead,rfl,by simp⟩,fun _=>(e.al b).1 (hK b hb.1)⟩
   ·rw [if_neg hb]
  ·obtain ⟨h1,h2⟩:=qb7 h
   rcases him _ hI with (h | ⟨b',⟨B',hb'⟩,hk',he⟩ | ⟨b',⟨t',r',o',hb'⟩,hn⟩) | h
   ·exact e.rows.imm b n ⟨t,r,o,h1⟩ ho h
   ·exact e.rows.main b b' n ⟨t,r,o,h1⟩ ⟨B',(qbc hb').1⟩ hk' ho he
   ·have:=e.rows.dis b' b n ⟨t',r',o',(qbc hb').1⟩ ⟨t,r,o,h1⟩ hn ho;exact h2 (this▸(qbc hb').2)
   ·have:=e.rows.lt b n ⟨t,r,o,h1⟩ ho;omega
theorem qn5:∀ {x:AV} {vs:List Value},Rp w Γ x vs→∀ b∈capB x,Γ.A b
 | .cons a l,vs,h,b,hb=>by
  simp only [Rp] at h;obtain ⟨v,us,e,h1,h2⟩:=h;cases a
  case ref =>
   simp only [capB,List.mem_cons] at hb
   rcases hb with rfl | hb
   ·simp only [Rp] at h1;exact h1.1
   ·exact qn5 h2 b hb
  case sl =>
   simp only [capB,List.mem_cons] at hb
   rcases hb with rfl | hb
   ·simp only [Rp] at h1;exact h1.1
   ·exact qn5 h2 b hb
  all_goals exact qn5 h2 b (by simpa [capB] using hb)
 | .undef,_,_,b,hb=>by simp [capB] at hb
 | .val _ _,_,_,b,hb=>by simp [capB] at hb
 | .gd _ _,_,_,b,hb=>by simp [capB] at hb
 | .opt _ _,_,_,b,hb=>by simp [capB] at hb
 | .anyb _ _,_,_,b,hb=>by simp [capB] at hb
 | .ref _ _ _ _,_,_,b,hb=>by simp [capB] at hb
 | .sl _ _ _ _ _,_,_,b,hb=>by simp [capB] at hb
 | .vsl _ _ _,_,_,b,hb=>by simp [capB] at hb
 | .mref _,_,_,b,hb=>by simp [capB] at hb
 | .fn _ _,_,_,b,hb=>by simp [capB] at hb
 | .tup _,_,_,b,hb=>by simp [capB] at hb
 | .agg _,_,_,b,hb=>by simp [capB] at hb
 | .nil,_,_,b,hb=>by simp [capB] at hb
theorem qsz:∀ {args:List AV} {vs:List Value},Fa w Γ args vs→∀ b∈slB args,Γ.A b
 | [],vs,_,b,hb=>by simp [slB] at hb
 | x::l,[],h,b,hb=>h.elim
 | x::l,v::vs,h,b,hb=>by
  obtain ⟨h1,h2⟩:=h;cases x
  case sl =>
   simp only [slB,List.mem_cons] at hb
   rcases hb with rfl | hb
   ·exact h1.1
   ·exact qsz h2 b hb
  case fn =>
   simp only [slB,List.mem_append] at hb
   rcases hb with hb | hb
   ·simp only [Ra,Rp,wa0,and_true] at h1;obtain ⟨us,_,h1⟩:=h1;exact qn5 h1 b hb
   ·exact qsz h2 b hb
  case agg =>
   simp only [slB,List.mem_append] at hb
   rcases hb with hb | hb
   ·simp only [Ra,Rp,wa0,and_true] at h1;obtain ⟨us,_,h1,_⟩:=h1;exact qn5 h1 b hb
   ·exact qsz h2 b hb
  all_goals exact qsz h2 b (by simpa [slB] using hb)
theorem qmq:∀ {l:List AV},(∀ (i:Nat) (a:AV),l[i]?=some a→∃ v,Ra w Γ a v)→∀ b∈valB l,Γ.A b
 | [],_,b,hb=>by simp [valB] at hb
 | x::l,h,b,hb=>by
  have h2:∀ (i:Nat) (a:AV),l[i]?=some a→∃ v,Ra w Γ a v:=fun i a hi=>h (i+1) a (by simpa using hi)
  obtain ⟨v,h1⟩:=h 0 x rfl;cases x
  case sl =>
   simp only [valB,List.mem_cons] at hb
   rcases hb with rfl | hb
   ·exact h1.1
   ·exact qmq h2 b hb
  case mref =>
   simp only [valB,List.mem_cons] at hb
   rcases hb with rfl | hb
   ·exact h1.1
   ·exact qmq h2 b hb
  all_goals exact qmq h2 b (by simpa [valB] using hb)
theorem qxe (em:EmbH Γ H w):∀ {K:List Nat},∀ b∈qoe H K,Γ.A b
 | [],b,hb=>by simp [qoe] at hb
 | k::K,b,hb=>by
  simp only [qoe,List.mem_append] at hb
  rcases hb with hb | hb
  ·split at hb
   ·rename_i vs hg;have:=em.blk k _ (qaw hg);simp only [RepB] at this;obtain ⟨_,c,el,_,_,h⟩:=this;exact qmq (fun i a hi=>by obtain ⟨v,_,_,hv⟩:=h i a hi;exact ⟨v,hv⟩) b hb
   ·rename_i vs t xs hg;have:=(qd0.1 (em.blk k _ (qaw hg))).2;simp only [RepB] at this;obtain ⟨_,c,el,_,_,h⟩:=this;exact qmq (fun i a hi=>by
     obtain ⟨v,_,_,hv⟩:=h i a (by
      unfold mixL;rw [waf (List.getElem?_eq_some_iff.1 hi).1];exact hi)
     exact ⟨v,hv⟩) b hb
   ·cases hb
  ·exact qxe em b hb
theorem qnq {H':List Hs}:∀ {K:List Nat},(∀ b∈K,H'[b]?=H[b]?)→qoe H' K=qoe H K
 | [],_=>rfl
 | k::K,h=>by
  have e:qoe H' K=qoe H K:=qnq fun b hb=>h b (wam _ hb)
  simp only [qoe,qax (h k (by simp)),e]
theorem qtj {H':List Hs} {args:List AV} (h:∀ b∈qe7 H args,H'[b]?=H[b]?):qe7 H' args=qe7 H args:=by
 unfold qe7 at h ⊢;rw [qnq fun b hb=>h b (wbg _ hb)]
theorem qzc (em:EmbH Γ H w) {args:List AV} {vs:List Value} (hf:Fa w Γ args vs):∀ b∈qe7 H args,Γ.A b:=fun b hb=>by
 rcases List.mem_append.1 hb with h | h
 ·exact qsz hf b h
 ·exact qxe em b h
theorem zfb {P:Program} {c:Con} (hc:c.Ok P) {args:List AV} {e:Ef} (he:c.eff H args=some e) (hob:allP e.ob) (em:EmbH Γ H w) {vs:List Value} (hf:Fa w Γ args vs) :
  Calls P c.f vs.toArray w fun en w'=>∃ v Γ',en=.returned v∧Ext Γ H w Γ' (qar H e.up) w'∧EmbH Γ' (qar H e.up) w'∧Ra w' Γ' e.v v:=by
 unfold Con.eff at he;split at he
 ·rename_i p env h1;split at he
  ·rename_i q r h2 h3;cases he;obtain ⟨hp,hq⟩:=qag.1 hob;obtain ⟨k1,k2⟩:=qfp (H:=[]) q1a h1 hp hf;refine Calls.mono (hc.2 (Γ.freeze []) w env q r vs (fun _ h=>h) (qog em) k1 h2 h3 hq k2) fun en w' hen=>?_
   obtain ⟨v,Γ1,rfl,hx,em1,hr⟩:=hen;obtain ⟨a1,a2⟩:=qpi (I:=Γ1.I) em (fun n hn=>hx.fr n hn ql0) hx.size hx.os hx.out (fun n hn=>hx.mi n (.inl hn)) (fun n hn=>by
    rcases hx.im n hn with (h | h) | h | h
    ·exact .inl h
    ·exact absurd h ql0
    ·exact absurd h ql0
    ·exact .inr h) em1.old
   exact ⟨v,_,rfl,a1,a2,q0y (Γ:=Γ1) (Γ':={ Γ with I:=Γ1.I }) (fun _ h=>h) hr⟩
  ·cases he
 ·split at he
  ·rename_i hfl;split at he
   ·rename_i p env h1;split at he
    ·rename_i q r h2 h3;cases he;obtain ⟨hp,hq⟩:=qag.1 hob;obtain ⟨k1,k2⟩:=qfp em.blkOk h1 hp hf;refine Calls.mono (hc.2 (Γ.freeze H) w env q r vs (fun _ h=>h) (qhv em) k1 h2 h3 hq k2) fun en w' hen=>?_
     obtain ⟨v,Γ1,rfl,hx,em1,hr⟩:=hen;obtain ⟨a1,a2⟩:=qpi (I:=Γ.I) em (fun n hn=>hx.fr n hn ql0) hx.size hx.os hx.out (fun n hn=>hn) (fun n hn=>.inl hn) (fun n hn=>Nat.lt_of_lt_of_le (em.old n hn) hx.size)
     exact ⟨v,_,rfl,a1,a2,q3w hfl hr⟩
    ·cases he
   ·cases he
  ·split at he
   ·rename_i p env h1;split at he
    ·rename_i q r h2 h3;cases he;obtain ⟨hp,hq⟩:=qag.1 hob;have em':=qr9 (K:=qe7 H args) em;obtain ⟨k1,k2⟩:=qfp em'.blkOk h1 hp hf;refine Calls.mono (hc.2 (Γ.freeze (qc7 (qe7 H args) 0 H)) w env q r vs (fun _ h=>h) (qhv em') k1 h2 h3 hq k2) fun en w' hen=>?_
     obtain ⟨v,Γ1,rfl,hx,em1,hr⟩:=hen;obtain ⟨a1,a2⟩:=qmy (K:=qe7 H args) (I:=Γ1.I) em (qzc em hf) (fun n hn=>hx.fr n hn ql0) hx.size hx.os hx.out (fun n hn=>hx.mi n (.inl hn)) (fun n hn=>by
      rcases hx.im n hn with h | h | h
      ·exact .inl h
      ·exact absurd h ql0
      ·exact .inr h) em1.old
     exact ⟨v,_,rfl,a1,a2,q0y (Γ:=Γ1) (Γ':={ Γ with I:=Γ1.I }) (fun _ h=>h) hr⟩
    ·cases he
   ·cases he
theorem q0l {P:Program}:∀ {cs:List Con},(∀ c∈cs,c.Ok P)→∀ (f:FuncId) (H:List Hs) (base:Nat) (args:List AV),allP (spOf cs f H base args).ob→qbr P f=true ∧
  ∀ (Γ:Cx) (w:World) (vs:List Value),EmbH Γ H w→Fa w Γ args vs →
   Calls P f vs.toArray w fun en w'=>∃ v Γ',en=.returned v∧Ext Γ H w Γ' (qar H (spOf cs f H base args).up) w'∧EmbH Γ' (qar H (spOf cs f H base args).up) w'∧Ra w' Γ' (spOf cs f H base args).v v
 | [],_,f,H,base,args,hob=>qaa hob
 | c::cs,h,f,H,base,args,hob=>by
  simp only [spOf] at hob ⊢;split at hob
  ·rename_i hh;have hcf:c.f=f:=by simp only [wa3] at hh;simpa using hh.1
   subst hcf;have hc:=h c (way ..)
   cases he:c.eff H (qsp args).2 with
   | none=>rw [he] at hob;exact qaa hob
   | some e =>
    rw [he] at hob;simp only [hh];obtain ⟨o1,o2⟩:=qag.1 hob;exact ⟨hc.1,fun Γ w vs em hf=>zfb hc he o2 em (qn9 hf o1)⟩
  ·rename_i hh;exact q0l (fun c hc=>h c (wam _ hc)) f H base args hob
theorem qs6 {f:FuncId} {H:List Hs} {base:Nat} {m:Bool} {args:List AV}:∀ {cs:List Con},spOf cs f H base (mark m::args)=.fail
 | []=>rfl
 | c::cs=>by simp only [spOf,mark,qxk,Bool.and_false];exact qs6
theorem q29 {P:Program} {cs:List Con} (h:∀ c∈cs,c.Ok P):SpecOk P (spOf cs) :=
 ⟨q0l h,fun f H base c args hob=>by rw [qs6] at hob;exact qaa hob⟩
theorem qvs {H H':List Hs} (h:Lives H H') {t:Ty} {x:AV} {r:List Prop×Den t} (h1:rvV H t x=some r):rvV H' t x=some r:=by
 unfold rvV at h1 ⊢
 by_cases ha:isAgg t=true
 ·rw [if_pos ha] at h1 ⊢
  cases x with
  | agg l =>
   cases hl:isL l with
   | true =>
    simp only [hl] at h1 ⊢;exact qfg h _ _ _ h1
   | false=>simp only [hl] at h1;cases h1
  | _=>exact h1
 ·rw [if_neg ha] at h1 ⊢;exact qfg h _ _ _ h1
theorem qs3 {H H':List Hs} (h:Lives H H'):∀ {ts:List Ty} {xs:List AV} {r:List Prop×List AV},resD H ts xs=some r→resD H' ts xs=some r
 | [],[],r,hr=>by simpa only [resD] using hr
 | t::ts,x::xs,r,hr=>by
  simp only [resD] at hr ⊢;split at hr
  ·rename_i p y q l h1 h2;have h1':rvV H' t x=some (p,y):=qvs h h1;rw [h1',qs3 h h2];exact hr
  ·cases hr
 | [],_::_,_,hr=>by simp [resD] at hr
 | _::_,[],_,hr=>by simp [resD] at hr
theorem qjx {H H':List Hs} (h:Lives H H'):∀ {ats:List AT} {xs:List AV} {r:List Prop×List AV},resA H ats xs=some r→resA H' ats xs=some r
 | [],[],r,hr=>by simpa only [resA] using hr
 | .d t::l,x::xs,r,hr=>by
  simp only [resA] at hr ⊢;split at hr
  ·rename_i p y q l h1 h2;have h1':rvV H' t x=some (p,y):=qvs h h1;rw [h1',qjx h h2];exact hr
  ·cases hr
 | .fn g caps::l,x::xs,r,hr=>by
  cases x with
  | fn g' cs =>
   simp only [resA] at hr ⊢;split at hr
   ·rename_i hh;rw [if_pos hh];split at hr
    ·rename_i h1 h2;rw [qs3 h h1,qjx h h2];exact hr
    ·cases hr
   ·cases hr
  | _=>simp [resA] at hr
 | [],_::_,_,hr=>by simp [resA] at hr
 | .d _::_,[],_,hr=>by simp [resA] at hr
 | .fn _ _::_,[],_,hr=>by simp [resA] at hr
theorem Con.eff_sim {c:Con} {H H':List Hs} {args:List AV} {e:Ef} (he:c.eff H args=some e) (ha:qec H H' e):∃ e',c.eff H' args=some e'∧Ef.sim e e':=by
 unfold Con.eff at he ⊢;split at he
 ·rename_i p env h1;split at he
  ·rename_i q r h2 h3;cases he;exact ⟨_,rfl,Ef.sim.refl _⟩
  ·cases he
 ·rename_i h1;split at he
  ·rename_i hfl;split at he
   ·rename_i p env h4;split at he
    ·rename_i q r h2 h3;cases he;have hl:Lives H H':=qjl rfl ha.1;simp only [hfl,qjx hl h4,h2,h3];exact ⟨_,rfl,rfl,rfl,rfl⟩
    ·cases he
   ·cases he
  ·rename_i hfl;split at he
   ·rename_i p env h4;split at he
    ·rename_i q r h2 h3;cases he;have hl:Lives H H':=qjl rfl ha.1;have hre:qe7 H' args=qe7 H args:=qtj fun b hb=>ha.2 (b,.dead) (List.mem_map.2 ⟨b,hb,rfl⟩)
     have hl':Lives (qc7 (qe7 H args) 0 H) (qc7 (qe7 H args) 0 H'):=by
      refine ⟨fun b B hB=>?_,fun m b i f hm=>?_⟩
      ·obtain ⟨g1,g2⟩:=qbc (qaw hB);have g3:hget H b=some B:=by simp [hget,g1]
       have g4:=qaw (hl.hg b B g3);unfold hget;rw [qc9,g4];simp [qh8.2 g2]
      ·rw [qc9,hl.hv _ _ _ _ (qk1 hm)];rfl
     simp only [hfl,hre,qjx hl' h4,h2,h3];exact ⟨_,rfl,rfl,rfl,rfl⟩
    ·cases he
   ·cases he
theorem qn0:∀ {cs:List Con},qcu (spOf cs)
 | [],f,H,H',base,args,hob,_=>qaa hob
 | c::cs,f,H,H',base,args,hob,ha=>by
  simp only [spOf] at hob ha ⊢;split at hob
  ·rename_i hh;rw [hh] at ha;simp only at ha
   cases he:c.eff H (qsp args).2 with
   | none=>rw [he] at hob;exact qaa hob
   | some e =>
    rw [he] at hob ha;simp only at ha ⊢;obtain ⟨e',h1,h2,h3,h4⟩:=Con.eff_sim he ha;rw [h1];exact ⟨by simp only [Ef.add,h2],h3,h4⟩
  ·rename_i hh;rw [hh] at ha;exact qn0 f H H' base args hob ha
end
inductive RS where
 | tmp (n:Nat)
 | cell (n:Nat) (ty:Ty)
def qbw (P:Program):List ResultVar→Option (List RS)
 | []=>some []
 | .tmp t::l=>match qbw P l with
  | some r=>some (.tmp t::r)
  | none=>none
 | .cell a t::l=>match tyS P t,qbw P l with
  | some ty,some r=>some (.cell a ty::r)
  | _,_=>none
def qnl (S:St) (t:Ty):RS→Option (List Prop×Den t)
 | .tmp n=>match rvV S.H t (peel (S.T.getD n .undef)).2 with
  | some (p,y)=>some ((peel (S.T.getD n .undef)).1++p,y)
  | none=>none
 | .cell n ty=>match rvV S.H (.ptr ty) (peel (S.T.getD n .undef)).2 with
  | some (p,y)=>match qa9 ty t y with
   | some z=>some ((peel (S.T.getD n .undef)).1++p,z)
   | none=>none
  | none=>none
def qyh (S:St):(rs:List Ty)→List RS→Option (List Prop×Dens rs)
 | [],[]=>some ([],())
 | t::ts,n::l=>match qnl S t n,qyh S ts l with
  | some (p,y),some (q,r)=>some (p++q,(y,r))
  | _,_=>none
 | [],_::_=>none
 | _::_,[]=>none
def finO (rs:List Ty) (slots:List RS):KT (Dens rs):=fun Y f e S=>match e with
 | .exit _=>none
 | _=>match qyh S rs slots with
  | some (p,y)=>gdL p (some (f y))
  | none=>none
theorem q56 {rs:List Ty} {slots:List RS}:NatK (finO rs slots):=fun Y f e S=>by
 cases e<;>simp only [finO]
 ·split
  ·rw [qdu];rfl
  ·rfl
 ·rfl
 ·split
  ·rw [qdu];rfl
  ·rfl
def impL:List Prop→Prop→Prop
 | [],X=>X
 | p::ps,X=>p→impL ps X
theorem qm8:∀ {l:List Prop} {X:Prop},impL l X→allP l→X
 | [],_,h,_=>h
 | p::l,X,h,hp=>qm8 (h (qa0.1 hp).1) (qa0.1 hp).2
def Con.vc (c:Con) (sp:Spec) (L:List LSh) (ac:AC) (n:Nat) (slots:List RS):Prop :=
 allD (tsA c.ats) fun env=>match c.pre env,c.F env with
  | some p,some r=>impL p (runO sp L ac ⟨qgo c.ats env++List.replicate n .undef,[]⟩ (finO c.rs slots) (Dens c.rs) id=some r)
  | _,_=>False
section
variable {P:Program}
theorem qjh {w:World} {Γ:Cx} {S:St} {a:Act} (em:Emb Γ S a w) {g:ResultVar→Sem Value} (hg:∀ t,g (.tmp t)=pure (a.tmps.getD t undef)) (hc:∀ n t,g (.cell n t)=do loadVar t (← asAddr (a.tmps.getD n undef)))
  {t:Ty} {p:List Prop} {y:Den t} {x:ResultVar} {r:RS} (hx:qbw P [x]=some [r]) (h:qnl S t r=some (p,y)) (hp:allP p):∃ v,(g x).run P w=.ok v w∧RepV w (Jf Γ S.H) t y v:=by
 cases x with
 | tmp n =>
  simp only [qbw,waz,wa0,and_true] at hx;subst hx;simp only [qnl] at h;split at h
  ·rename_i q z h1;cases h;obtain ⟨hp0,hp1⟩:=qag.1 hp;exact ⟨_,by rw [hg];rfl,qfy em.heap.blkOk h1 hp1 (qah (qsk em n) hp0)⟩
  ·cases h
 | cell n tid =>
  simp only [qbw] at hx;split at hx
  ·rename_i ty r' ht hr';cases hr';simp only [waz,wa0,and_true] at hx;subst hx;simp only [qnl] at h;split at h
   ·rename_i q z h1;split at h
    ·rename_i z' h2;cases h;obtain ⟨e1,e2⟩:=qat h2;subst e1;subst e2;obtain ⟨hp0,hp1⟩:=qag.1 hp;obtain ⟨cs,c1,c2⟩:=qfy em.heap.blkOk h1 hp1 (qah (qsk em n) hp0);simp only [RepC] at c1;obtain ⟨b,off,c,d1,d2,d3,d4⟩:=c1;have hv:a.tmps.getD n undef=.pointer (some ⟨b,off,none⟩):=by rw [c2,d1];rfl
     refine ⟨mkV ty c,?_,c,d3,rfl⟩;rw [hc,hv];simp only [Sem.run_bind,asAddr,Sem.run_pure,wbp];exact qiv ht (RepC.length _ _ _ d3) d4
    ·cases h
   ·cases h
  ·cases hx
theorem qje {x:ResultVar} {l:List ResultVar} {slots:List RS} (h:qbw P (x::l)=some slots):∃ r rest,slots=r::rest∧qbw P [x]=some [r]∧qbw P l=some rest:=by
 cases x with
 | tmp t =>
  simp only [qbw] at h ⊢;split at h
  ·rename_i r hr;cases h;exact ⟨_,_,rfl,rfl,hr⟩
  ·cases h
 | cell a t =>
  simp only [qbw] at h ⊢;split at h
  ·rename_i ty r h1 h2;cases h;exact ⟨_,_,rfl,by rw [h1],h2⟩
  ·cases h
theorem qm1 {w:World} {Γ:Cx} {S:St} {a:Act} (em:Emb Γ S a w) {g:ResultVar→Sem Value} (hg:∀ t,g (.tmp t)=pure (a.tmps.getD t undef)) (hc:∀ n t,g (.cell n t)=do loadVar t (← asAddr (a.tmps.getD n undef))) :
  ∀ {rs:List Ty} {slots:List RS} {l:List ResultVar} {p:List Prop} {y:Dens rs},qbw P l=some slots→qyh S rs slots=some (p,y)→allP p →
  ∃ us,(l.mapM g).run P w=.ok us w∧Rp w (Γ.freeze S.H) (toAV (qba rs y)) us
 | rs,slots,[],p,y,hl,h,_=>by
  simp only [qbw,waz] at hl;subst hl
  cases rs with
  | nil=>exact ⟨[],by simp,by simp only [qba,toAV,Rp]⟩
  | cons t ts=>simp [qyh] at h
 | rs,slots,x::l,p,y,hl,h,hp=>by
  obtain ⟨r,rest,rfl,h1,h2⟩:=qje hl
  cases rs with
  | nil=>simp [qyh] at h
  | cons t ts =>
   simp only [qyh] at h;split at h
   ·rename_i p1 z q r' k1 k2;cases h;obtain ⟨hp1,hp2⟩:=qag.1 hp;obtain ⟨v,m1,m2⟩:=qjh em hg hc h1 k1 hp1;obtain ⟨us,m3,m4⟩:=qm1 em hg hc h2 k2 hp2;refine ⟨v::us,by simp [List.mapM_cons,m1,m3],?_⟩
    simp only [qba,toAV,Rp];exact ⟨_,_,rfl,⟨_,rfl,m2⟩,m4⟩
   ·cases h
def resV:List Value→Value
 | [v]=>v
 | vs=>.tuple vs.toArray
theorem qnb {w:World} {fn:Func} {tmps:Array Value} {us:List Value} (h:∀ g:ResultVar→Sem Value,(∀ t,g (.tmp t)=pure (tmps.getD t undef))→(∀ n t,g (.cell n t)=do loadVar t (← asAddr (tmps.getD n undef)))→(fn.results.toList.mapM g).run P w=.ok us w) :
  (results fn tmps).run P w=.ok (resV us) w:=by
 unfold results;simp only [Array.mapM_eq_mapM_toList,Sem.run_bind,Sem.run_map];rw [h _ (fun _=>rfl) (fun _ _=>rfl)]
 match us with
 | []=>rfl
 | [v]=>rfl
 | v::u::us=>rfl
theorem zcd {w:World} {Γ:Cx}:∀ {rs:List Ty} {y:Dens rs} {us:List Value},Rp w Γ (toAV (qba rs y)) us→Ra w Γ (qgu rs y) (resV us)
 | [],y,us,k2=>by
  simp only [qba,toAV,Rp] at k2;subst k2;simp only [qgu,qba,toAV,Ra,Rp,wa0,and_true];exact ⟨[],rfl,rfl⟩
 | [t],y,us,k2=>by
  simp only [qba,toAV,Rp] at k2;obtain ⟨v,us',rfl,k3,rfl⟩:=k2;simp only [qgu,Ra,Rp];exact k3
 | t::u::ts,y,us,k2=>by
  have k2':=k2;simp only [qba,toAV,Rp] at k2;obtain ⟨v1,us',rfl,_,v2,us'',rfl,_,_⟩:=k2;simp only [qgu,Ra,Rp,wa0,and_true];exact ⟨_,rfl,k2'⟩
theorem Con.prove (c:Con) {sp:Spec} (hsp:SpecOk P sp) (hfr:qcu sp) (hm:P.follows .mixedOrders=true) {fn:Func} {code:Code} {ms:List Nat} {lm lm':List (List Nat)} {ac:AC} {slots:List RS} {n:Nat}
  (hf:P.funcs[c.f]?=some fn) (hb:fn.body=some code) (hcall:qbr P c.f=true) (hn:fn.ntmps-c.ats.length=n) (hres:qbw P fn.results.toList=some slots) (hc:qe5 P ms code lm=some (ac,lm'))
  {L:List LSh} (h:c.vc sp L ac n slots):c.Ok P:=by
 refine ⟨hcall,fun Γ w env p r vs hA em henv hpre hF hp hargs=>?_⟩
 have h:=qj3 h henv;rw [hpre,hF] at h;have h:=qm8 h hp;have hlen:(qgo c.ats env).length=vs.length:=hargs.length;have hal:(qgo c.ats env).length=c.ats.length:=by
  have:∀ (ats:List AT) (env:List AV),(qgo ats env).length=ats.length:=by
   intro ats
   induction ats with
   | nil=>intro env;rfl
   | cons x l ih=>intro env;cases x<;>simp [qgo,ih]
  exact this _ _
 have em0:Emb Γ ⟨qgo c.ats env++List.replicate n .undef,[]⟩ { tmps:=vs.toArray++Array.replicate (fn.ntmps-vs.toArray.size) undef,defers:=[] } w:=by
  refine ⟨rfl,?_,fun i x hx=>?_,em⟩
  ·simp only [Array.size_append,Array.size_replicate,wae,waq,List.size_toArray];rw [hlen,← hn,← hal,hlen]
  ·rcases Nat.lt_or_ge i vs.length with hi | hi
   ·rw [waf (by omega)] at hx
    obtain ⟨v,hv,hr⟩:=hargs.get i x hx;refine ⟨v,?_,hr⟩;rw [Array.getElem?_append_left (by simpa using hi)]
    simpa using hv
   ·rw [wag (by omega),wax] at hx
    split at hx
    ·rename_i hlt;cases hx;have hsz:i<(vs.toArray++Array.replicate (fn.ntmps-vs.toArray.size) undef).size:=by
      simp only [Array.size_append,Array.size_replicate,List.size_toArray];omega
     exact ⟨_,Array.getElem?_eq_getElem hsz,qcg⟩
    ·cases hx
 refine calls_of_wp hf hb (wp_mono (qoq hsp hfr hm code lm ac lm' hc _ q56 r Γ _ _ w em0 h) fun e a w' hq=>?_)
 obtain ⟨Γ',S',em',hx,hk⟩:=hq;have key:∀ hk:finO c.rs slots (Dens c.rs) id .normal S'=some r,a.defers=[]∧∃ v,(results fn a.tmps).run P w'=.ok v w'∧∃ v' Γ',Ending.returned v=.returned v'∧Ext Γ [] w Γ' [] w'∧EmbH Γ' [] w'∧Ra w' Γ' (qgu c.rs r) v':=by
  intro hk;simp only [finO] at hk;split at hk
  ·rename_i q y hy;obtain ⟨hq,he⟩:=qbi.1 hk;simp only [id,waz] at he;subst he;have hex:∃ us,(∀ g:ResultVar→Sem Value,(∀ t,g (.tmp t)=pure (a.tmps.getD t undef))→(∀ n t,g (.cell n t)=do loadVar t (← asAddr (a.tmps.getD n undef)))→(fn.results.toList.mapM g).run P w'=.ok us w')∧Rp w' (Γ'.freeze S'.H) (toAV (qba c.rs y)) us:=by
    let g0:ResultVar→Sem Value:=fun | .tmp t=>pure (a.tmps.getD t undef) | .cell n t=>do loadVar t (← asAddr (a.tmps.getD n undef))
    obtain ⟨us,u1,u2⟩:=qm1 em' (g:=g0) (fun _=>rfl) (fun _ _=>rfl) hres hy hq
    refine ⟨us,fun g h1 h2=>?_,u2⟩
    have:g=g0:=by funext x;cases x<;>simp [g0,h1,h2]
    rw [this];exact u1
   obtain ⟨us,k1,k2⟩:=hex;refine ⟨em'.defers,_,qnb k1,_,Γ'.freeze S'.H,rfl,?_,qhv em'.heap,?_⟩
   ·refine ⟨hx.fr,hx.size,hx.os,hx.out,fun n hn=>absurd hn ql0,fun n hn=>?_,fun n hn=>.inl (hx.mi n hn),fun b hb=>absurd hb (hA b)⟩
    rcases hn with hn | hn
    ·exact hx.im n hn
    ·rcases hx.wr n hn with h1 | h1
     ·exact absurd h1 ql0
     ·exact .inr (.inr h1)
   ·exact zcd k2
  ·cases hk
 cases e with
 | normal=>exact key hk
 | ret=>exact key hk
 | exit i=>cases hk
 | goto l=>exact hk.elim
 | panic c=>exact hk.elim
 | outgrown=>exact hk.elim
end
structure Comp where
 ac:AC
 n:Nat
 slots:List RS
def comp (P:Program) (f:FuncId) (k:Nat) (ms:List Nat) (lm:List (List Nat)):Option Comp :=
 match P.funcs[f]? with
 | some fn => match fn.name == "runtime.NumGoroutine" with
  | true=>none
  | false=>match fn.body with
   | some code=>match qe5 P ms code lm,qbw P fn.results.toList with
    | some (ac,_),some slots=>some ⟨ac,fn.ntmps-k,slots⟩
    | _,_=>none
   | none=>none
 | none=>none
def Con.goal (P:Program) (sp:Spec) (c:Con) (L:List LSh) (ms:List Nat) (lm:List (List Nat)):Prop :=
 match comp P c.f c.ats.length ms lm with
 | some ⟨ac,n,slots⟩=>c.vc sp L ac n slots
 | none=>False
theorem Con.of_goal {P:Program} {cs:List Con} (hm:P.follows .mixedOrders=true) (h:∀ c∈cs,c.Ok P) (c:Con) {L:List LSh} {ms:List Nat} {lm:List (List Nat)} (hg:c.goal P (spOf cs) L ms lm):c.Ok P:=by
 unfold Con.goal at hg;split at hg
 ·rename_i ac n slots hc;unfold comp at hc;split at hc
  ·rename_i fn hf;split at hc
   ·cases hc
   ·rename_i hnm;split at hc
    ·rename_i code hb;split at hc
     ·rename_i ac' lm' slots' h1 h2;cases hc;refine Con.prove c (q29 h) qn0 hm hf hb ?_ rfl h2 h1 hg;simp [qbr,hf,hnm,hb]
     ·cases hc
    ·cases hc
  ·cases hc
 ·exact hg.elim
def mkC (f:FuncId) (ats:List AT) (rs:List Ty) (pre:Cur (tsA ats) (List Prop)) (F:Cur (tsA ats) (Dens rs)):Con:=⟨f,ats,rs,appC (tsA ats) pre,appC (tsA ats) F⟩
theorem okN {P:Program}:∀ c∈([]:List Con),c.Ok P:=fun _ h=>nomatch h
theorem okC {P:Program} {c:Con} {cs:List Con} (h:c.Ok P) (hs:∀ x∈cs,x.Ok P):∀ x∈c::cs,x.Ok P:=fun x hx=>by
 rcases List.mem_cons.1 hx with rfl | hx
 ·exact h
 ·exact hs x hx
section
variable {S X σ A:Type}
end
theorem q2p {X:Type} {x:Option X}:gd True x=x:=if_pos trivial
def lm30:List (List Nat):=[[0],[1],[2],[3],[4],[5],[6],[7],[8],[9],[10],[11],[12],[13],[14],[15],[16],[17],[18],[19],[20],[21],[22],[23],[24],[25],[26],[27],[28],[29]]
theorem qfo {x y:Int}:ieq x y=true↔x=y:=by simp [ieq]
theorem q57 {x y:Bool}:beqB x y=true↔x=y:=by simp [beqB]
theorem qlb:∀ {t:Ty} (_:qcw t=true) {x y:Den t},deq t x y=true↔x=y
 | .int k,_,x,y=>qfo
 | .bool,_,x,y=>q57
 | .unit,_,x,y=>⟨fun _=>rfl,fun _=>rfl⟩
 | .prod a b,h,x,y=>by
  simp only [qcw,wa3] at h;simp only [deq,wa3,qlb h.1,qlb h.2];exact ⟨fun h=>Prod.ext h.1 h.2,fun h=>by subst h;exact ⟨rfl,rfl⟩⟩
end
end Go.Ab
