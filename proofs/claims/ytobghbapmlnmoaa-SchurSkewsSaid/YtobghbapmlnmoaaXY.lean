/- Words of a skew filling: its numbers in order,those that are. -/
import Derived.Test.YtobghbapmlnmoaaXT
import Derived.Test.YtobghbapmlnmoaaXG
set_option linter.unusedVariables false
set_option linter.unusedSimpArgs false
set_option maxRecDepth 100000
namespace Go.Schur
open Go Go.Ab Go.Proofs
abbrev WP:=Nat×Int
def leW (a b:WP):Bool:=decide (a.2<b.2∨(a.2=b.2∧b.1≤a.1))
def rowW (W:List WP) (i:Nat):List Int:=(W.filter fun a=>a.1 == i).map (·.2)
def qg1:Nat→List (List Int)→List WP
 | _,[]=>[]
 | k,r::R=>r.map (fun x=>(k,x))++qg1 (k+1) R
def qa9 (R:List (List Int)):List WP:=(qg1 0 R).mergeSort leW
theorem qjb (A B:List WP) (i:Nat):rowW (A++B) i=rowW A i++rowW B i:=by
 unfold rowW;rw [List.filter_append,wbx]
theorem q5h (r:List Int) (k i:Nat):rowW (r.map (fun x=>((k,x):WP))) i=if k=i then r else []:=by
 unfold rowW
 induction r with
 | nil=>split<;>rfl
 | cons x r ih =>
  by_cases h:k=i
  ·rw [if_pos h] at ih ⊢;rw [wbv,List.filter_cons_of_pos (by simpa using h),wbv,ih]
  ·rw [if_neg h] at ih ⊢;rw [wbv,List.filter_cons_of_neg (by simpa using h),ih]
theorem qit:∀ (R:List (List Int)) (k i:Nat),rowW (qg1 k R) i=if k≤i then R.getD (i-k) [] else []
 | [],k,i=>by
  rw [qg1,List.getD_nil];split<;>rfl
 | r::R,k,i=>by
  rw [qg1,qjb,q5h,qit R (k+1) i]
  by_cases h:k=i
  ·subst h;rw [if_pos rfl,if_neg (by omega),if_pos (wae _),Nat.sub_self,wci];rfl
  ·rw [if_neg h,wbu]
   by_cases h2:k+1≤i
   ·rw [if_pos h2,if_pos (by omega),show i-k=(i-(k+1))+1 by omega];rfl
   ·rw [if_neg h2,if_neg (by omega)]
theorem q1r {A B:List WP} (h:A.Perm B) (i:Nat):(rowW A i).Perm (rowW B i):=(h.filter _).map _
theorem quz (a b c:WP):leW a b=true→leW b c=true→leW a c=true:=by
 unfold leW;simp only [wbn];omega
theorem q1j (a b:WP):(leW a b || leW b a)=true:=by
 unfold leW;simp only [wbw,wbn];omega
theorem qco (R:List (List Int)):(qa9 R).Pairwise fun a b=>leW a b=true:=List.pairwise_mergeSort (le:=leW) quz q1j _
theorem qfp (R:List (List Int)):(qa9 R).Perm (qg1 0 R):=List.mergeSort_perm _ _
theorem qvz {W:List WP} (h:W.Pairwise fun a b=>leW a b=true) (i:Nat):(rowW W i).Pairwise (·≤·):=by
 unfold rowW;rw [List.pairwise_map];refine (h.filter _).imp fun {a b} h=>?_
 unfold leW at h;rw [wbn] at h;omega
theorem qe8 {R:List (List Int)} (h:∀ r∈R,r.Pairwise (·≤·)) (i:Nat):rowW (qa9 R) i=R.getD i []:=by
 have h1:=q1r (qfp R) i;rw [qit,if_pos (Nat.zero_le _),Nat.sub_zero] at h1;refine h1.eq_of_pairwise (fun a b _ _ h1 h2=>Int.le_antisymm h1 h2) (qvz (qco R) i) ?_
 rw [waa]
 cases hi:R[i]? with
 | none=>exact List.Pairwise.nil
 | some r=>exact h r (wb8 hi)
def gN (l:List Nat) (i:Nat):Nat:=l.getD i 0
def rwN (R:List (List Nat)) (i:Nat):List Nat:=R.getD i []
def atN (inner:List Nat) (R:List (List Nat)) (i j:Nat):Nat:=bif Nat.ble (gN inner i) j then (rwN R i).getD (j-gN inner i) 0 else 0
def dN (w:List Nat):Nat→Nat
 | 0=>0
 | 1=>0
 | k+2=>bif Nat.blt (gN w k) (gN w (k+1)) then dN w (k+1)+1 else dN w (k+1)
def slN (w inner:List Nat):Nat→List (List Nat)→Nat→Nat→Option (List (List Nat))
 | 0,_,_,_=>none
 | n+1,R,i,j =>
  bif Nat.beq (atN inner R i (j+1)) 0 && Nat.beq (atN inner R (i+1) j) 0 then some (R.set i ((rwN R i).take (j-gN inner i)))
  else bif !Nat.beq (atN inner R (i+1) j) 0 && (Nat.beq (atN inner R i (j+1)) 0 || Nat.ble (atN inner R (i+1) j) (atN inner R i (j+1))) then slN w inner n (R.set i ((rwN R i).set (j-gN inner i) (atN inner R (i+1) j))) (i+1) j
  else bif Nat.beq (atN inner R (i+1) j) 0 || Nat.blt (dN w (atN inner R i (j+1))) (dN w (atN inner R (i+1) j)) then slN w inner n (R.set i ((rwN R i).set (j-gN inner i) (atN inner R i (j+1)))) i (j+1)
  else none
def trZ:List Nat→List Nat
 | []=>[]
 | a::l=>match trZ l with
  | []=>bif Nat.beq a 0 then [] else [a]
  | b::m=>a::b::m
def trK (n:Nat) (R:List (List Nat)):Nat→Nat
 | 0=>0
 | m+1=>bif Nat.blt n (m+1) && Nat.beq (rwN R m).length 0 then trK n R m else m+1
abbrev SN:=List Nat×List (List Nat)
def trN (s:SN):SN:=(trZ s.1,s.2.take (trK (trZ s.1).length s.2 s.2.length))
def sldN (w:List Nat) (s:SN) (row:Nat):Option SN:=bif Nat.beq (gN s.1 row) 0 then none else
 match slN w (s.1.set row (gN s.1 row-1)) 40 (s.2.set row (0::rwN s.2 row)) row (gN s.1 row-1) with
 | none=>none
 | some R=>some (trN (s.1.set row (gN s.1 row-1),R))
def strN (w:List Nat):Nat→SN→Option (List (List Nat))
 | 0,_=>none
 | n+1,s=>bif Nat.beq s.1.length 0 then some s.2 else
  match sldN w s (s.1.length-1) with
  | none=>none
  | some t=>strN w n t
def posN:List Nat→Nat→Nat→List Nat
 | [],_,_=>[]
 | a::w,i,k=>bif Nat.beq a i then k::posN w i (k+1) else posN w i (k+1)
def qeh (w:List Nat):List (List Nat):=(List.range 8).map fun i=>posN w i 1
def q5i (inner:List Nat) (R:List (List Nat)):Nat→Nat
 | 0=>0
 | i+1=>q5i inner R i+(gN inner i+(rwN R i).length)
def entN (w inner:List Nat) (n:Nat) (R:List (List Nat)) (a k:Nat):Bool :=
 Nat.ble 1 ((rwN R a).getD k 0) && Nat.ble ((rwN R a).getD k 0) n && (Nat.beq k 0 || Nat.ble ((rwN R a).getD (k-1) 0) ((rwN R a).getD k 0)) &&
  (Nat.beq a 0 || Nat.beq (atN inner R (a-1) (gN inner a+k)) 0 || Nat.blt (dN w (atN inner R (a-1) (gN inner a+k))) (dN w ((rwN R a).getD k 0)))
def q8j (w inner:List Nat) (n:Nat) (R:List (List Nat)) (a:Nat):Bool :=
 Nat.ble (gN inner a+(rwN R a).length) (bif Nat.beq a 0 then 8 else gN inner (a-1)+(rwN R (a-1)).length) && Nat.ble (q5i inner R (a+1)) 8 && (List.range (rwN R a).length).all (entN w inner n R a)
def okN2 (w:List Nat) (n:Nat) (s:SN):Bool:=qad (toI s.1) && Nat.ble s.1.length s.2.length && Nat.ble s.2.length 20 && (List.range s.2.length).all (q8j w s.1 n s.2)
def chkN (m w:List Nat):Bool :=
 match strN w 40 (trN (m,qeh w)) with
 | none=>false
 | some U=>okN2 w w.length ([],U) && U.all (fun r=>!Nat.beq r.length 0) && U.flatten.isPerm (List.range' 1 w.length) &&
  (List.range m.length).all fun r=>bif Nat.blt (gN m (r+1)) (gN m r) then
   (match sldN w (trN (m,qeh w)) r with
   | none=>false
   | some t=>okN2 w w.length t && decide (trN t=t) && decide (strN w 40 t=some U)) else true
def outW (m w:List Nat) (i:Nat):Nat:=gN m i+w.count i
def canN (m w:List Nat) (i:Nat):Bool:=Nat.beq i 0 || Nat.blt (outW m w i) (outW m w (i-1))
def goN (m:List Nat):Nat→List Nat→Bool
 | 0,w=>chkN m w
 | n+1,w=>chkN m w && (List.range 8).all fun i=>bif canN m w i then goN m n (w++[i]) else true
structure Fit (f:Nat→Int) (w:List Nat) (n:Nat):Prop where
 z:f 0=0
 pos:∀ k,1≤k→1≤f k
 mono:∀ x y,1≤x→x≤y→f x≤f y
 str:∀ x y,1≤x→dN w x<dN w y→f x<f y
 top:∀ k,k≤n→f k≤8
theorem Fit.eq0 {f:Nat→Int} {w:List Nat} {n:Nat} (h:Fit f w n) {x:Nat}:f x=0↔x=0:=by
 constructor
 ·intro h0
  by_cases hx:x=0
  ·exact hx
  ·have:=h.pos x (by omega);omega
 ·rintro rfl;exact h.z
def mapR (f:Nat→Int) (R:List (List Nat)):List (List Int):=R.map fun r=>r.map f
theorem qcw {l:List Nat} {i:Nat}:rowF (toI l) (i:Int)=(gN l i:Int):=by rw [qba,qhz];rfl
theorem qdu {f:Nat→Int} {R:List (List Nat)} {i:Nat}:(mapR f R).getD i []=(rwN R i).map f:=by
 unfold mapR rwN;rw [waa,waq,waa];cases R[i]?<;>rfl
theorem q6e {f:Nat→Int} (hz:f 0=0) {r:List Nat} {k:Nat}:(r.map f).getD k 0=f (r.getD k 0):=by
 rw [waa,waq,waa]
 cases r[k]? with
 | none=>exact hz.symm
 | some x=>rfl
theorem qno {f:Nat→Int} (hz:f 0=0) {R:List (List Nat)} {i k:Nat}:el (mapR f R) i k=f ((rwN R i).getD k 0):=by
 unfold el;rw [qdu,q6e hz]
theorem qmx {f:Nat→Int} {R:List (List Nat)} {i:Nat} {r:List Nat}:(mapR f R).set i (r.map f)=mapR f (R.set i r):=by
 unfold mapR;rw [List.map_set]
theorem q1v {f:Nat→Int} (hz:f 0=0) {inner:List Nat} {R:List (List Nat)} {i j:Nat}:atX (toI inner) (mapR f R) i (j:Int)=f (atN inner R i j):=by
 unfold atX atN;rw [qcw,qdu,war]
 by_cases h:gN inner i≤j
 ·have e:((j:Int)-(gN inner i:Int)).toNat=j-gN inner i:=by omega
  rw [show Nat.ble (gN inner i) j=true from Nat.ble_eq_true_of_le h,wbs]
  by_cases h2:j-gN inner i<(rwN R i).length
  ·rw [if_pos (by omega),qno hz,e]
  ·rw [if_neg (by omega),waa,wac (by omega)];exact hz.symm
 ·rw [if_neg (by omega)]
  have:Nat.ble (gN inner i) j=false:=by
   cases hb:Nat.ble (gN inner i) j with
   | false=>rfl
   | true=>exact absurd (wat hb) h
  rw [this,wbr];exact hz.symm
theorem za7 {f:Nat→Int} (hz:f 0=0) {inner:List Nat} {R:List (List Nat)} {i j:Nat}:atR (toI inner) (mapR f R) i (j:Int)=f (atN inner R i j):=by rw [← q3i,q1v hz]
theorem q2r {f:Nat→Int} {w:List Nat} {n:Nat} (h:Fit f w n) {inner:List Nat}:∀ (m:Nat) (R:List (List Nat)) (i j:Nat) (R':List (List Nat)),slN w inner m R i j=some R'→slR (toI inner) m (mapR f R) i (j:Int)=mapR f R'
 | 0,R,i,j,R',hs=>by cases hs
 | m+1,R,i,j,R',hs=>by
  rw [slN] at hs;rw [slR];have ej:((j:Int)+1)=((j+1:Nat):Int):=by omega
  have en:((j:Int)-(gN inner i:Int)).toNat=j-gN inner i:=by omega
  rw [ej,q1v h.z,q1v h.z,qcw,qdu,en,← List.map_take,← List.map_set,← List.map_set,qmx,qmx,qmx];generalize atN inner R i (j+1)=r at *;generalize atN inner R (i+1) j=b at *;simp only [h.eq0]
  by_cases h1:r=0∧b=0
  ·rw [if_pos h1];obtain ⟨rfl,rfl⟩:=h1;simp only [Nat.beq_refl,wbz,wbs] at hs;cases hs;rfl
  ·rw [if_neg h1];have e1:(Nat.beq r 0 && Nat.beq b 0)=false:=by
    cases hb:(Nat.beq r 0 && Nat.beq b 0) with
    | false=>rfl
    | true =>
     rw [wbc] at hb;exact absurd ⟨waj hb.1,waj hb.2⟩ h1
   rw [e1,wbr] at hs
   cases hc:(!Nat.beq b 0 && (Nat.beq r 0 || Nat.ble b r)) with
   | true =>
    rw [hc,wbs] at hs;rw [wbc,Bool.not_eq_true',wbw] at hc;have hb0:b≠0:=fun hq=>by subst hq;cases hc.1
    have hp:=h.pos b (by omega)
    rw [if_pos ⟨by omega,hc.2.imp (fun hq=>waj hq) fun hq=>h.mono b r (by omega) (wat hq)⟩]
    exact q2r h m _ _ _ _ hs
   | false =>
    rw [hc,wbr] at hs
    cases hd:(Nat.beq b 0 || Nat.blt (dN w r) (dN w b)) with
    | false=>rw [hd,wbr] at hs;cases hs
    | true =>
     rw [hd,wbs] at hs;have hn:¬ (0<f b∧(r=0∨f b≤f r)):=by
      rintro ⟨p1,p2⟩;have hb0:b≠0:=fun hq=>by subst hq;rw [h.z] at p1;omega
      have hbf:Nat.beq b 0=false:=by
       cases hq:Nat.beq b 0 with
       | false=>rfl
       | true=>exact absurd (waj hq) hb0
      rw [hbf] at hc hd;simp only [wbh,wb1,Bool.or_eq_false_iff,Bool.false_or] at hc hd;have hr0:r≠0:=fun hq=>by subst hq;cases hc.1
      have:=h.str r b (by omega) (by
       rw [Nat.blt_eq] at hd;exact hd)
      rcases p2 with p2 | p2
      ·exact hr0 p2
      ·omega
     rw [if_neg hn];exact q2r h m _ _ _ _ hs
theorem q2x:∀ l:List Nat,toI (trZ l)=qbd (toI l)
 | []=>rfl
 | a::l=>by
  have ih:=q2x l;show toI (trZ (a::l))=qbd ((a:Int)::toI l);rw [trZ,qbd,← ih]
  cases hl:trZ l with
  | nil =>
   simp only
   by_cases h:a=0
   ·subst h;rw [if_pos ⟨rfl,rfl⟩];rfl
   ·rw [if_neg (fun hh=>h (by omega))]
    have:Nat.beq a 0=false:=by
     cases hq:Nat.beq a 0 with
     | false=>rfl
     | true=>exact absurd (waj hq) h
    rw [this];rfl
  | cons b m =>
   rw [if_neg (fun hh=>by cases hh.1)];rfl
theorem q71 {f:Nat→Int} {n:Nat} {R:List (List Nat)}:∀ m,qus n (mapR f R) m=trK n R m
 | 0=>rfl
 | m+1=>by
  rw [qus,trK,q71 m,qdu,war]
  by_cases h:n<m+1∧(rwN R m).length=0
  ·rw [if_pos h];have e1:Nat.blt n (m+1)=true:=by rw [Nat.blt_eq];exact h.1
   have e2:Nat.beq (rwN R m).length 0=true:=by rw [h.2];rfl
   rw [e1,e2];rfl
  ·rw [if_neg h];have:(Nat.blt n (m+1) && Nat.beq (rwN R m).length 0)=false:=by
    cases hq:(Nat.blt n (m+1) && Nat.beq (rwN R m).length 0) with
    | false=>rfl
    | true =>
     rw [wbc,Nat.blt_eq] at hq;exact absurd ⟨hq.1,waj hq.2⟩ h
   rw [this];rfl
noncomputable def sk (f:Nat→Int) (s:SN):SkD:=(toI s.1,mapR f s.2,())
theorem q8a {f:Nat→Int} {s:SN}:qml (sk f s)=sk f (trN s):=by
 unfold qml sk trN;simp only;have hl:(mapR f s.2).length=s.2.length:=by unfold mapR;rw [war]
 have ht:(qbd (toI s.1)).length=(trZ s.1).length:=by rw [← q2x];unfold toI;rw [war]
 rw [ht,hl,q71,q2x];unfold mapR;rw [List.map_take]
theorem q9l {f:Nat→Int} {w:List Nat} {n:Nat} (h:Fit f w n) {s t:SN} {row:Nat} (hs:sldN w s row=some t):sldR (sk f s) (row:Int)=sk f t:=by
 unfold sldN at hs
 cases h0:Nat.beq (gN s.1 row) 0 with
 | true=>rw [h0] at hs;cases hs
 | false =>
  rw [h0,wbr] at hs;have hp:1≤gN s.1 row:=by
   by_cases hq:gN s.1 row=0
   ·rw [hq] at h0;cases h0
   ·omega
  cases h1:slN w (s.1.set row (gN s.1 row-1)) 40 (s.2.set row (0::rwN s.2 row)) row (gN s.1 row-1) with
  | none=>rw [h1] at hs;cases hs
  | some R =>
   rw [h1] at hs;obtain rfl:=Option.some.inj hs;have:=q2r h 40 _ _ _ _ h1;unfold sldR;have e1:((row:Int)).toNat=row:=by omega
   have e2:(sk f s).1.getD row 0-1=((gN s.1 row-1:Nat):Int):=by
    show (toI s.1).getD row 0-1=_;rw [qhz];have:s.1.getD row 0=gN s.1 row:=rfl;omega
   have e3:(sk f s).1.set row ((gN s.1 row-1:Nat):Int)=toI (s.1.set row (gN s.1 row-1)):=by
    show (toI s.1).set row _=_;unfold toI;rw [List.map_set]
   have e4:(sk f s).2.1.set row (0::(sk f s).2.1.getD row [])=mapR f (s.2.set row (0::rwN s.2 row)):=by
    show (mapR f s.2).set row (0::(mapR f s.2).getD row [])=_;rw [qdu,← qmx,wbv,h.z]
   rw [e1,e2,e3,e4,this];exact q8a (s:=(s.1.set row (gN s.1 row-1),R))
theorem q09 {f:Nat→Int} {w:List Nat} {n:Nat} (h:Fit f w n):∀ (m:Nat) (s:SN) (U:List (List Nat)),strN w m s=some U→(strG m (sk f s)).2.1=mapR f U
 | 0,s,U,hs=>by cases hs
 | m+1,s,U,hs=>by
  rw [strN] at hs;rw [strG];have hl:(sk f s).1.length=s.1.length:=by show (toI s.1).length=_;unfold toI;rw [war]
  rw [hl]
  by_cases h0:s.1.length=0
  ·rw [if_pos h0];rw [show Nat.beq s.1.length 0=true by rw [h0];rfl,wbs] at hs
   cases hs;rfl
  ·rw [if_neg h0];have:Nat.beq s.1.length 0=false:=by
    cases hq:Nat.beq s.1.length 0 with
    | false=>rfl
    | true=>exact absurd (waj hq) h0
   rw [this,wbr] at hs
   cases h1:sldN w s (s.1.length-1) with
   | none=>rw [h1] at hs;cases hs
   | some t =>
    rw [h1] at hs;have:=q9l h h1;rw [show ((s.1.length:Nat):Int)-1=((s.1.length-1:Nat):Int) by omega,this]
    exact q09 h m t U hs
theorem qye {f:Nat→Int} {inner:List Nat} {R:List (List Nat)}:∀ i,sumO (toI inner) (mapR f R) i=(q5i inner R i:Int)
 | 0=>rfl
 | i+1=>by
  rw [sumO,q5i,qye i];unfold outI;rw [qcw,qdu,war];omega
theorem zap {f:Nat→Int} {w:List Nat} {n:Nat} (h:Fit f w n) {s:SN} (hs:okN2 w n s=true):SkOk (toI s.1) (mapR f s.2):=by
 unfold okN2 at hs;simp only [wbc] at hs;obtain ⟨⟨⟨h1,h2⟩,h3⟩,h4⟩:=hs;have hl:(mapR f s.2).length=s.2.length:=by unfold mapR;rw [war]
 have h2:=wat h2;have h3:=wat h3;refine ⟨h1,by rw [hl];unfold toI;rw [war];exact h2,by rw [hl];exact h3,fun a ha=>?_⟩
 rw [hl] at ha;have hr:=List.all_eq_true.1 h4 a (List.mem_range.2 ha);unfold q8j at hr;simp only [wbc] at hr;obtain ⟨⟨r1,r2⟩,r3⟩:=hr;have r1:=wat r1;have r2:=wat r2;have hent:∀ k,k<(rwN s.2 a).length→entN w s.1 n s.2 a k=true:=fun k hk=>List.all_eq_true.1 r3 k (List.mem_range.2 hk)
 have hlen:((mapR f s.2).getD a []).length=(rwN s.2 a).length:=by rw [qdu,war]
 have hx:∀ k,k<(rwN s.2 a).length→(1≤(rwN s.2 a).getD k 0∧(rwN s.2 a).getD k 0≤n)∧(k=0∨(rwN s.2 a).getD (k-1) 0≤(rwN s.2 a).getD k 0)∧(a=0∨atN s.1 s.2 (a-1) (gN s.1 a+k)=0∨dN w (atN s.1 s.2 (a-1) (gN s.1 a+k))<dN w ((rwN s.2 a).getD k 0)):=fun k hk=>by
  have:=hent k hk;unfold entN at this;simp only [wbc,wbw] at this;obtain ⟨⟨⟨q1,q2⟩,q3⟩,q4⟩:=this;refine ⟨⟨wat q1,wat q2⟩,q3.imp waj wat,?_⟩
  rcases q4 with (q4 | q4) | q4
  ·exact .inl (waj q4)
  ·exact .inr (.inl (waj q4))
  ·rw [Nat.blt_eq] at q4;exact .inr (.inr q4)
 refine ⟨?_,by rw [qye];omega,fun k hk=>?_,fun k hk h0=>?_,fun k hk h0=>?_⟩
 ·unfold outI;rw [hlen,qcw,qcw,qdu,war]
  by_cases h0:a=0
  ·subst h0;rw [if_pos rfl];simp only [Nat.beq_refl,wbs] at r1;omega
  ·rw [if_neg h0];have:Nat.beq a 0=false:=by
    cases hq:Nat.beq a 0 with
    | false=>rfl
    | true=>exact absurd (waj hq) h0
   rw [this,wbr] at r1;omega
 ·rw [hlen] at hk;rw [qno h.z];have:=hx k hk;exact ⟨h.pos _ this.1.1,h.top _ this.1.2⟩
 ·rw [hlen] at hk;rw [qno h.z,qno h.z];have h1:=hx k hk;have h2:=hx (k-1) (by omega)
  exact h.mono _ _ h2.1.1 (h1.2.1.resolve_left (by omega))
 ·rw [hlen] at hk;rw [qno h.z,qcw,show (gN s.1 a:Int)+(k:Int)=((gN s.1 a+k:Nat):Int) by omega,za7 h.z]
  have h1:=hx k hk
  rcases h1.2.2 with hq | hq | hq
  ·omega
  ·rw [hq,h.z];have:=h.pos _ h1.1.1;omega
  ·by_cases hz:atN s.1 s.2 (a-1) (gN s.1 a+k)=0
   ·rw [hz,h.z];have:=h.pos _ h1.1.1;omega
   ·exact h.str _ _ (by omega) hq
def fW (W:List WP) (k:Nat):Int:=if k=0 then 0 else match W[k-1]? with | some a=>a.2 | none=>9
theorem qvm {W:List WP} {k:Nat} (h:k<W.length):fW W (k+1)=W[k].2:=by
 unfold fW;rw [if_neg (by omega),wcc,wab h]
theorem q1w {W:List WP} {k:Nat} (h:W.length≤k):fW W (k+1)=9:=by
 unfold fW;rw [if_neg (by omega),wcc,wac h]
theorem q2u (w:List Nat):∀ y x,x≤y→dN w x≤dN w y
  | 0, x, h => by obtain rfl : x = 0 := by omega
                  exact wae _
  | 1,x,h=>by
    rcases (by omega:x=0∨x=1) with rfl | rfl<;>exact wae _
  | k+2,x,h=>by
    by_cases hx:x=k+2
    · subst hx;exact wae _
    · have:=q2u w (k+1) x (by omega)
      rw [dN];cases Nat.blt (gN w k) (gN w (k+1))<;>simp only [wbs,wbr]<;>omega
theorem zbe {W:List WP} (hW:W.Pairwise fun a b=>leW a b=true) (hE:∀ a∈W,1≤a.2∧a.2≤8):Fit (fW W) (W.map (·.1)) W.length:=by
 have hmem:∀ k (h:k<W.length),1≤W[k].2∧W[k].2≤8:=fun k h=>hE _ (wav h)
 have hmono:∀ x y,1≤x→x≤y→fW W x≤fW W y:=fun x y h1 h2=>by
  obtain ⟨x,rfl⟩:∃ k,x=k+1:=⟨x-1,by omega⟩
  obtain ⟨y,rfl⟩:∃ k,y=k+1:=⟨y-1,by omega⟩
  by_cases hy:y<W.length
  ·rw [qvm hy,qvm (show x<W.length by omega)]
   by_cases he:x=y
   ·subst he;exact waw _
   ·have:=List.pairwise_iff_getElem.1 hW x y (by omega) hy (by omega)
    unfold leW at this;rw [wbn] at this;omega
  ·rw [q1w (k:=y) (by omega)]
   by_cases hx:x<W.length
   ·rw [qvm hx];have:=hmem x hx;omega
   ·rw [q1w (by omega)];exact waw _
 refine ⟨rfl,fun k hk=>?_,hmono,?_,fun k hk=>?_⟩
 ·obtain ⟨k,rfl⟩:∃ j,k=j+1:=⟨k-1,by omega⟩
  by_cases h:k<W.length
  ·rw [qvm h];exact (hmem k h).1
  ·rw [q1w (by omega)];omega
 ·intro x y
  induction y using Nat.strongRecOn with
  | _ y ih =>
   intro h1 hd
   match y,ih,hd with
   | 0,_,hd=>exact absurd hd (by rw [show dN (W.map (·.1)) 0=0 from rfl];omega)
   | 1,_,hd=>exact absurd hd (by rw [show dN (W.map (·.1)) 1=0 from rfl];omega)
   | k+2,ih,hd =>
    by_cases hk:dN (W.map (·.1)) x<dN (W.map (·.1)) (k+1)
    ·have:=ih (k+1) (by omega) h1 hk
     have:=hmono (k+1) (k+2) (by omega) (by omega)
     omega
    ·rw [dN] at hd;have hx:x≤k+1:=by
      by_cases hx:x≤k+1
      ·exact hx
      ·have:=q2u (W.map (·.1)) x (k+2) (by omega)
       rw [dN] at this;omega
     cases hb:Nat.blt (gN (W.map (·.1)) k) (gN (W.map (·.1)) (k+1)) with
     | false=>rw [hb,wbr] at hd;omega
     | true =>
      rw [Nat.blt_eq] at hb;have hk1:k+1<W.length:=by
       by_cases hq:k+1<W.length
       ·exact hq
       ·unfold gN at hb;rw [waa (i:=k+1),wac (by rw [war];omega)] at hb
        exact absurd hb (wby _)
      have hg:∀ j (hj:j<W.length),gN (W.map (·.1)) j=W[j].1:=fun j hj=>by
       unfold gN;rw [waa,waq,wab hj];rfl
      rw [hg k (by omega),hg (k+1) hk1] at hb
      have:=List.pairwise_iff_getElem.1 hW k (k+1) (by omega) hk1 (by omega)
      unfold leW at this;rw [wbn] at this;have e1:=qvm (W:=W) (k:=k) (by omega)
      have e2:=qvm (W:=W) (k:=k+1) hk1;have e2:fW W (k+2)=W[k+1].2:=e2;have:=hmono x (k+1) h1 hx;omega
 ·by_cases h0:k=0
  ·subst h0;show (0:Int)≤8;omega
  ·obtain ⟨k,rfl⟩:∃ j,k=j+1:=⟨k-1,by omega⟩
   rw [qvm (show k<W.length by omega)];exact (hmem k (by omega)).2
theorem q1y:∀ (U V:List WP) (i:Nat),(posN (U.map (·.1)) i (V.length+1)).map (fW (V++U))=rowW U i
 | [],V,i=>rfl
 | a::U,V,i=>by
  have ih:=q1y U (V++[a]) i;rw [way,waf] at ih;have e:fW (V++a::U) (V.length+1)=a.2:=by
   have hl:V.length<(V++a::U).length:=by simp
   rw [qvm hl];simp
  rw [wbv,posN];unfold rowW at ih ⊢
  by_cases h:a.1=i
  ·rw [show Nat.beq a.1 i=true by rw [h];exact Nat.beq_refl i,wbs,wbv,e,List.filter_cons_of_pos (by simpa using h),wbv]
   exact congrArg _ ih
  ·have:Nat.beq a.1 i=false:=by
    cases hq:Nat.beq a.1 i with
    | false=>rfl
    | true=>exact absurd (waj hq) h
   rw [this,wbr,List.filter_cons_of_neg (by simpa using h)]
   exact ih
theorem qu4 (W:List WP) (i:Nat):(mapR (fW W) (qeh (W.map (·.1)))).getD i []=if i<8 then rowW W i else []:=by
 rw [qdu];unfold rwN qeh;rw [waa,waq]
 by_cases h:i<8
 ·rw [if_pos h,wa0 h];have:=q1y W [] i;exact this
 ·rw [if_neg h,wac (by rw [List.length_range];omega)];rfl
def qkp (m:List Nat):List Nat→List Nat→Prop
 | _,[]=>True
 | w,i::u=>(i<8∧canN m w i=true)∧qkp m (w++[i]) u
theorem q8i {m:List Nat}:∀ (n:Nat) (w u:List Nat),goN m n w=true→qkp m w u→u.length≤n→chkN m (w++u)=true
 | 0,w,u,h,hv,hl=>by
  obtain rfl:u=[]:=wb5 (by omega)
  rw [wci];exact h
 | n+1,w,u,h,hv,hl=>by
  rw [goN,wbc] at h
  cases u with
  | nil=>rw [wci];exact h.1
  | cons i u =>
   obtain ⟨⟨h8,hc⟩,hv⟩:=hv;have:=List.all_eq_true.1 h.2 i (List.mem_range.2 h8);rw [hc,wbs] at this;have:=q8i n (w++[i]) u this hv (by simp at hl;omega)
   rwa [way] at this
theorem qyq {m:List Nat} {W:List WP} (h:∀ A a B,W=A++a::B→a.1<8∧canN m (A.map (·.1)) a.1=true):∀ B A,W=A++B→qkp m (A.map (·.1)) (B.map (·.1))
 | [],A,_=>trivial
 | a::B,A,hW=>by
  refine ⟨h A a B hW,?_⟩;have:=qyq h B (A++[a]) (by rw [way];exact hW)
  rwa [wbx] at this
theorem qgs (A:List WP) (i:Nat):(A.map (·.1)).count i=(rowW A i).length:=by
 unfold rowW;rw [war,List.count_eq_countP,List.countP_map,wce];rfl
theorem qwf {l:List Int} {R:List (List Int)}:∀ n,sumO l R n=(l.take n).sum+(((R.take n).map List.length).sum:Nat)
 | 0=>rfl
 | n+1=>by
  rw [sumO,qwf n];unfold outI;rw [qba,List.take_add_one,List.take_add_one,List.sum_append,wbx,List.sum_append,waa,waa];cases l[n]?<;>cases R[n]?<;>simp<;>omega
theorem qj5:∀ (R:List (List Int)) (k:Nat),(qg1 k R).length=(R.map List.length).sum
 | [],_=>rfl
 | r::R,k=>by rw [qg1,waf,war,qj5 R (k+1),wbv,List.sum_cons]
theorem qkx {l:List Int} {R:List (List Int)} (h:SkOk l R):∀ r∈R,r.Pairwise (·≤·):=fun r hr=>by
 obtain ⟨i,hi,rfl⟩:=List.getElem_of_mem hr;have hc:=h.cnd i hi;have hg:R.getD i []=R[i]:=by rw [waa,wab hi];rfl
 have hel:∀ k (hk:k<R[i].length),el R i k=R[i][k]:=fun k hk=>by
  unfold el;rw [hg,waa,wab hk];rfl
 rw [wau];have step:∀ d a (h:a+d<R[i].length),R[i][a]'(by omega)≤R[i][a+d]:=by
  intro d
  induction d with
  | zero=>intro a h;exact waw _
  | succ d ih =>
   intro a h;have h1:=ih a (by omega)
   have h2:=hc.row (a+d+1) (by rw [hg];omega) (by omega)
   rw [show a+d+1-1=a+d by omega,hel _ (by omega),hel _ (by omega)] at h2
   exact Int.le_trans h1 h2
 intro a b ha hb hab;have:=step (b-a) a (by omega)
 simp only [show a+(b-a)=b by omega] at this
 exact this
theorem q6k {R:List (List Int)} {a:WP} (h:a∈qa9 R):∃ k,k<(R.getD a.1 []).length∧el R a.1 k=a.2:=by
 have h1:a.2∈rowW (qg1 0 R) a.1:=by
  unfold rowW;exact List.mem_map.2 ⟨a,List.mem_filter.2 ⟨(qfp R).mem_iff.1 h,by simp⟩,rfl⟩
 rw [qit,if_pos (Nat.zero_le _),Nat.sub_zero] at h1;obtain ⟨k,hk,he⟩:=List.getElem_of_mem h1;refine ⟨k,hk,?_⟩;unfold el;rw [waa,wab hk];exact he
theorem q93 {l:List Int} {R:List (List Int)} (h:BedR l R):∀ {a:Nat},1≤outI l R a→(a:Int)+1≤sumO l R (a+1):=by
  intro a ha;have hm:∀ d b,b+d=a→1≤outI l R b:=by
    intro d
    induction d with
    | zero => intro b hb; obtain rfl : b = a := by omega
              exact ha
    | succ d ih =>
      intro b hb;have:=ih (b+1) (by omega)
      have:=h.dec b;omega
  have:∀ n,n≤a→(n:Int)+1≤sumO l R (n+1):=by
    intro n
    induction n with
    | zero=>intro _;have:=hm a 0 (by omega);rw [sumO,sumO];omega
    | succ n ih =>
      intro hn;have:=ih (by omega)
      have:=hm (a-(n+1)) (n+1) (by omega)
      rw [sumO];omega
  exact this a (wae _)
theorem q1k {l:List Int} {R:List (List Int)} (h:SkOk l R) {i k:Nat} (hk:k<(R.getD i []).length):i<8:=by
 have hi:=qql (rows:=R) (i:=i) (by omega)
 have h1:=q93 (qq8 h) (a:=i) (by unfold outI;have:=(qaz h.shp i).1;omega)
 have h2:=(h.cnd i hi).sum;omega
theorem qlt {m:List Nat} {R:List (List Int)} (h:SkOk (toI m) R):qkp m [] ((qa9 R).map (·.1))∧m.sum+(qa9 R).length≤8:=by
 have hrow:=qe8 (qkx h);refine ⟨qyq (W:=qa9 R) (fun A a B hW=>?_) (qa9 R) [] rfl,?_⟩
 ·obtain ⟨i,v⟩:=a;have hi:rowW A i++v::rowW B i=R.getD i []:=by
   rw [← hrow,hW,qjb];unfold rowW;rw [List.filter_cons_of_pos (by simp),wbv]
  have hp:(rowW A i).length<(R.getD i []).length:=by rw [← hi,waf,wbf];omega
  have hv:el R i (rowW A i).length=v:=by
   unfold el;rw [← hi,waa,wah (wae _),Nat.sub_self];rfl
  refine ⟨q1k h hp,?_⟩;unfold canN
  by_cases h0:i=0
  ·rw [show Nat.beq i 0=true by rw [h0];rfl];rfl
  ·rw [wbw];refine .inr ?_;rw [Nat.blt_eq];unfold outW;rw [qgs,qgs];show gN m i+(rowW A i).length<gN m (i-1)+(rowW A (i-1)).length;have hil:=qql (rows:=R) (i:=i) (by omega)
   have hc:=h.cnd i hil;have hle:=hc.le;rw [if_neg h0] at hle;unfold outI at hle;have hcol:=hc.col _ hp (by omega)
   rw [hv] at hcol;unfold atR at hcol;rw [qcw,qcw] at hle;rw [qcw,qcw] at hcol
   by_cases hq:gN m i+(rowW A i).length<gN m (i-1)
   ·omega
   ·rw [if_pos (by omega)] at hcol
    have ek:((gN m i:Int)+((rowW A i).length:Int)-(gN m (i-1):Int)).toNat=gN m i+(rowW A i).length-gN m (i-1):=by omega
    rw [ek] at hcol
    by_cases hlt:gN m i+(rowW A i).length<gN m (i-1)+(rowW A (i-1)).length
    ·exact hlt
    ·exfalso;have hr1:rowW A (i-1)++rowW B (i-1)=R.getD (i-1) []:=by
      rw [← hrow,hW,qjb];congr 1;unfold rowW;rw [List.filter_cons_of_neg (by simp;omega)]
     have hlen:(R.getD (i-1) []).length=(rowW A (i-1)).length+(rowW B (i-1)).length:=by rw [← hr1,waf]
     unfold el at hcol;rw [← hr1,waa,wah (by omega)] at hcol
     have hlb:gN m i+(rowW A i).length-gN m (i-1)-(rowW A (i-1)).length<(rowW B (i-1)).length:=by omega
     rw [wab hlb,Option.getD_some] at hcol;have hmem:=wav hlb;generalize (rowW B (i-1))[gN m i+(rowW A i).length-gN m (i-1)-(rowW A (i-1)).length]=y at hcol hmem;unfold rowW at hmem;obtain ⟨b,hb,rfl⟩:=List.mem_map.1 hmem;rw [waz] at hb;have hs:=qco R;rw [hW,List.pairwise_append] at hs;have:=(List.pairwise_cons.1 hs.2.1).1 b hb.1;unfold leW at this;rw [wbn] at this;have hb1:b.1=i-1:=by simpa using hb.2
     omega
 ·rw [(qfp R).length_eq,qj5];have hs:=qwf (l:=toI m) (R:=R) R.length;have hl:=h.len;rw [wal hl,wbl,qju] at hs
  by_cases h0:R.length=0
  ·rw [h0] at hl;obtain rfl:R=[]:=wb5 h0;have:=(qal.1 h.shp).2.2;rw [qju] at this;simp only [List.map_nil,List.sum_nil];omega
  ·have:=(h.cnd (R.length-1) (by omega)).sum
   rw [show R.length-1+1=R.length by omega] at this
   omega
end Go.Schur
