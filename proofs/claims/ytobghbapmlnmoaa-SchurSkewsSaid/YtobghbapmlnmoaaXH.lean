/- Fillings: which ones are made,and that none is made twice. -/
import Derived.Test.YtobghbapmlnmoaaXD
set_option linter.unusedVariables false
set_option linter.unusedSimpArgs false
namespace Go.Schur
open Go Go.Ab Go.Proofs
def Ord (inner:List Int) (T:List (List Int)):Prop:=∀ i j:Nat,i<T.length→j<(T.getD i []).length →
 (0<j→(T.getD i []).getD (j-1) 0≤(T.getD i []).getD j 0)∧(0<i→atF inner T ((i:Int)-1) (rowF inner i+j)<(T.getD i []).getD j 0)
structure Tab (inner outer:List Int) (most:Int) (T:List (List Int)):Prop where
 len:T.length=outer.length
 row:∀ i:Nat,i<T.length→rowF inner i+((T.getD i []).length:Int)=rowF outer i
 ent:∀ r∈T,∀ x∈r,1≤x∧x≤most
 ord:Ord inner T
inductive Pre:List (List Int)→List (List Int)→Prop
 | nil (T:List (List Int)):Pre [] T
 | app (R:List (List Int)) (r s:List Int) (U:List (List Int)):Pre (R++[r]) (R++(r++s)::U)
theorem qfz {inner:List Int} {T T':List (List Int)} {i j:Int} (h:T.getD i.toNat []=T'.getD i.toNat []):atF inner T i j=atF inner T' i j:=by
 unfold atF;rw [h]
theorem qce {A:Type} (R U:List A) (r d:A):(R++r::U).getD R.length d=r:=by
 rw [waa,wah (wae _)];simp
theorem qbq {A:Type} {R U:List A} {d:A} {i:Nat} (h:i<R.length):(R++U).getD i d=R.getD i d:=by
 simp [waa,wag h]
def qj4 (inner:List Int) (R:List (List Int)) (r:List Int):Int:=atF inner (R++[r]) ((R.length:Int)-1) (rowF inner R.length+r.length)
theorem qyu {inner:List Int} {R U:List (List Int)} {r r':List Int}:atF inner (R++r'::U) ((R.length:Int)-1) (rowF inner R.length+r.length)=qj4 inner R r:=by
 unfold qj4
 by_cases h0:R.length=0
 ·unfold atF;rw [if_pos (.inl (by omega)),if_pos (.inl (by omega))]
 ·refine qfz ?_;rw [show ((R.length:Int)-1).toNat=R.length-1 by omega,qbq (by omega),qbq (by omega)]
theorem qgt {inner:List Int} {R:List (List Int)} {r:List Int} {x:Int}:qcu inner (R++[r])≤x↔1≤x∧qj4 inner R r<x∧(r≠[]→r.getLastD 0≤x):=by
 unfold qcu qj4;rw [qih,show (((R++[r]).length:Nat):Int)-2=(R.length:Int)-1 by simp;omega,show (((R++[r]).length:Nat):Int)-1=(R.length:Int) by simp]
 by_cases hr:r=[]
 ·rw [if_pos hr];simp [hr];omega
 ·rw [if_neg hr];simp [hr];omega
theorem q9m {inner:List Int} {R:List (List Int)} {r:List Int} {x:Int} (h:Ord inner (R++[r])) (hx:qcu inner (R++[r])≤x):Ord inner (R++[r++[x]]):=by
 obtain ⟨x1,x2,x3⟩:=qgt.1 hx;intro i j hi hj;simp only [waf,wbf,wbm] at hi;have hlt:i<(R++[r]).length:=by simp;omega
 by_cases h1:i<R.length
 ·rw [qbq h1] at hj ⊢;obtain ⟨k1,k2⟩:=h i j hlt (by rw [qbq h1];exact hj)
  rw [qbq h1] at k1 k2;refine ⟨k1,fun h0=>?_⟩
  have:=k2 h0
  rwa [qfz (T':=R++[r++[x]]) (by rw [show ((i:Int)-1).toNat=i-1 by omega,qbq (by omega),qbq (by omega)])] at this
 ·have:i=R.length:=by omega
  subst this;rw [qce] at hj ⊢;simp only [waf,wbf,wbm] at hj
  by_cases hjr:j<r.length
  ·obtain ⟨k1,k2⟩:=h R.length j hlt (by rw [qce];exact hjr)
   rw [qce] at k1 k2;rw [qbq hjr];refine ⟨fun h0=>?_,fun h0=>?_⟩
   ·rw [qbq (by omega)];exact k1 h0
   ·have:=k2 h0
    rwa [qfz (T':=R++[r++[x]]) (by rw [show ((R.length:Int)-1).toNat=R.length-1 by omega,qbq (by omega),qbq (by omega)])] at this
  ·have:j=r.length:=by omega
   subst this;rw [qce,qyu];refine ⟨fun h0=>?_,fun _=>x2⟩
   rw [qbq (by omega),← qn1]
   exact x3 (fun e=>by subst e;simp at h0)
theorem q3c {inner:List Int} {R:List (List Int)} {r s:List Int} {x:Int} {U:List (List Int)} (h:Ord inner (R++(r++x::s)::U)) (h1:1≤x):qcu inner (R++[r])≤x:=by
 obtain ⟨k1,k2⟩:=h R.length r.length (by simp) (by rw [qce];simp)
 rw [qce,qce] at k1 k2;rw [qyu] at k2;refine qgt.2 ⟨h1,?_,fun hr=>?_⟩
 ·by_cases h0:0<R.length
  ·exact k2 h0
  ·unfold qj4 atF;rw [if_pos (.inl (by omega))];omega
 ·have hp:0<r.length:=List.length_pos_iff.2 hr;have:=k1 hp;rw [qbq (by omega)] at this
  rw [qn1];exact this
theorem q7a {inner:List Int} {rows:List (List Int)} (h:Ord inner rows):Ord inner (rows++[[]]):=by
 intro i j hi hj;simp only [waf,wbf,wbm] at hi
 by_cases h1:i<rows.length
 ·rw [qbq h1] at hj ⊢;obtain ⟨k1,k2⟩:=h i j h1 hj;refine ⟨k1,fun h0=>?_⟩
  have:=k2 h0
  rwa [qfz (T':=rows++[[]]) (by rw [show ((i:Int)-1).toNat=i-1 by omega,qbq (by omega)])] at this
 ·have:i=rows.length:=by omega
  subst this;rw [qce] at hj;simp at hj
def cnt (x:Int) (T:List (List Int)):Nat:=T.flatten.count x
theorem zar {R:List (List Int)} {r s:List Int} {U:List (List Int)} {x:Int}:cnt x (R++(r++s)::U)=cnt x (R++[r])+(s.count x+cnt x U):=by
 simp [cnt,List.count_append];omega
theorem q9s {R:List (List Int)} {r:List Int} {x y:Int}:cnt x (R++[r++[y]])=cnt x (R++[r])+(if y=x then 1 else 0):=by
 simp only [cnt,List.flatten_append,List.flatten_cons,List.flatten_nil,wci,List.count_append,List.count_cons,List.count_nil,beq_iff_eq];split<;>omega
theorem qx3 {rows:List (List Int)} {x:Int}:cnt x (rows++[[]])=cnt x rows:=by simp [cnt]
theorem qet {A:Type} {g:Int→List A} {t:A}:∀ {c:Nat} {x:Int},t∈catX g c x↔∃ y,x≤y∧y<x+c∧t∈g y
 | 0,x=>by simp [catX];intro y h1 h2;omega
 | c+1,x=>by
  rw [catX,List.mem_append,qet (c:=c)];constructor
  ·rintro (h | ⟨y,h1,h2,h3⟩)
   ·exact ⟨x,by omega,by omega,h⟩
   ·exact ⟨y,by omega,by omega,h3⟩
  ·rintro ⟨y,h1,h2,h3⟩
   by_cases hy:y=x
   ·subst hy;exact .inl h3
   ·exact .inr ⟨y,by omega,by omega,h3⟩
theorem ql4 {A:Type} {g:Int→List A}:∀ {c:Nat} {x:Int},(∀ y,x≤y→y<x+c→(g y).Nodup)→(∀ y z t,x≤y→y<z→z<x+c→t∈g y→t∉g z)→(catX g c x).Nodup
 | 0,x,_,_=>by simp [catX]
 | c+1,x,h1,h2=>by
  rw [catX,List.nodup_append];refine ⟨h1 x (by omega) (by omega),ql4 (fun y h3 h4=>h1 y (by omega) (by omega)) (fun y z t h3 h4 h5=>h2 y z t (by omega) h4 (by omega)),fun t ht u hu=>?_⟩
  obtain ⟨z,h3,h4,h5⟩:=qet.1 hu;rintro rfl;exact h2 x z t (by omega) (by omega) (by omega) ht h5
def Left (most:Int) (left:List Int) (rows T:List (List Int)):Prop:=∀ x:Int,1≤x→x≤most→left.getD (x-1).toNat 0+cnt x rows=cnt x T
theorem qoz {R:List (List Int)} {r:List Int} {T:List (List Int)} (h:Pre (R++[r]) T):∃ s U,T=R++(r++s)::U:=by
 generalize hx:R++[r]=X at h
 cases h with
 | nil=>simp at hx
 | app R' r' s U =>
  obtain ⟨rfl,h2⟩:=List.append_inj' hx rfl;cases h2;exact ⟨s,U,rfl⟩
theorem qut:∀ {l:List Int} {i:Nat},(∀ x∈l,0≤x)→sumN l=0→l.getD i 0=0
 | [],i,_,_=>by simp
 | a::l,i,h,h0=>by
  simp only [sumN,wbv,List.sum_cons] at h0;have ha:=h a (by simp)
  cases i with
  | zero=>simp;omega
  | succ i=>simpa using qut (l:=l) (i:=i) (fun x hx=>h x (by simp [hx])) (by unfold sumN;omega)
theorem q54 {R:List (List Int)} {r:List Int} {T:List (List Int)} (h:Pre (R++[r]) T) (hl:T.length=R.length+1) (hr:(T.getD R.length []).length=r.length):T=R++[r]:=by
 obtain ⟨s,U,rfl⟩:=qoz h;have hU:U=[]:=List.length_eq_zero_iff.1 (by simp only [waf,wbf] at hl;omega)
 subst hU;rw [qce] at hr;have:s=[]:=List.length_eq_zero_iff.1 (by rw [waf] at hr;omega)
 subst this;simp
theorem q1e {rows T:List (List Int)} (h:Pre rows T) (hlt:rows.length<T.length) (hrow:∀ i:Nat,i+1=rows.length→(T.getD i []).length=(rows.getD i []).length):Pre (rows++[[]]) T:=by
 cases h with
 | nil =>
  cases T with
  | nil=>simp at hlt
  | cons r U=>exact Pre.app [] [] r U
 | app R r s U =>
  have h1:=hrow R.length (by simp)
  rw [qce,qce] at h1;have:s=[]:=List.length_eq_zero_iff.1 (by rw [waf] at h1;omega)
  subst this
  cases U with
  | nil=>simp at hlt
  | cons u U =>
   have:=Pre.app (R++[r]) [] u U;simpa using this
theorem qts {rows T:List (List Int)} (h:Pre (rows++[[]]) T):Pre rows T:=by
 obtain ⟨s,U,rfl⟩:=qoz h
 rcases List.eq_nil_or_concat rows with rfl | ⟨R,r,rfl⟩
 ·exact .nil _
 ·have:=Pre.app R r [] (([]++s)::U);simpa using this
structure Sums (inner outer left:List Int) (most:Int) (rows:List (List Int)) (N:Nat):Prop where
 tot:∀ T,Tab inner outer most T→T.flatten.length=N
 sum:sumN left+rows.flatten.length=N
theorem qsb {inner outer:List Int} {most:Int} {nul:Bool} {T:List (List Int)} {N:Nat}:∀ {n:Nat} {left:List Int} {rows:List (List Int)},preM n inner outer left most nul rows→Ord inner rows→(nul=false→Sums inner outer left most rows N) →
  (T∈fil inner outer most nul n left rows↔Tab inner outer most T∧Pre rows T∧(nul=false→Left most left rows T))
 | 0,left,rows,hp,_,_=>by have:=hp.mu;omega
 | n+1,left,rows,hp,ho,hs=>by
  rw [fil]
  by_cases hf:full inner outer rows=true
  ·rw [if_pos hf];have hlastrow:∀ i:Nat,i+1=rows.length→rowF inner i+((rows.getD i []).length:Int)=rowF outer i:=fun i hi=>by
    have hne:rows≠[]:=fun e=>by subst e;simp at hi
    obtain ⟨R,r,rfl⟩:∃ R r,rows=R++[r]:=⟨rows.dropLast,rows.getLast hne,(List.dropLast_concat_getLast hne).symm⟩;rw [qin] at hf;simp only [waf,wbf,wbm] at hi;have:i=R.length:=by omega
    subst this;rw [qa6];exact of_decide_eq_true hf
   by_cases hl:rows.length=outer.length
   ·rw [if_pos hl,wch];constructor
    ·rintro rfl;have hT:Tab inner outer most T:=⟨hl,fun i hi=>by
      by_cases h1:i+1<T.length
      ·exact hp.fl i h1
      ·exact hlastrow i (by omega),hp.ent,ho⟩
     refine ⟨hT,?_,fun hn x h1 h2=>?_⟩
     ·rcases List.eq_nil_or_concat T with rfl | ⟨R,r,rfl⟩
      ·exact .nil _
      ·have:=Pre.app R r [] [];simpa using this
     ·have hs:=hs hn;have h3:=hs.tot T hT;have h4:=hs.sum;rw [qut (fun x hx=>((hp.lf hn).2 x hx).1) (by omega)]
      simp
    ·rintro ⟨h1,h2,h3⟩
     rcases List.eq_nil_or_concat rows with rfl | ⟨R,r,rfl⟩
     ·simp only [wbm] at hl;exact List.length_eq_zero_iff.1 (by rw [h1.len];exact hl.symm)
     ·rw [List.concat_eq_append] at *;simp only [waf,wbf,wbm] at hl;refine q54 h2 (by rw [h1.len];omega) ?_
      have k1:=h1.row R.length (by rw [h1.len];omega)
      have k2:=hlastrow R.length (by simp)
      rw [qa6] at k2;omega
   ·rw [if_neg hl,qsb (hp.open_ hf hl) (q7a ho) (fun hn=>⟨(hs hn).tot,by simpa using (hs hn).sum⟩)]
    constructor
    ·rintro ⟨h1,h2,h3⟩;exact ⟨h1,qts h2,fun hn x h4 h5=>by have:=h3 hn x h4 h5;rwa [qx3] at this⟩
    ·rintro ⟨h1,h2,h3⟩;refine ⟨h1,q1e h2 (by rw [h1.len];have:=hp.len;omega) (fun i hi=>?_),fun hn x h4 h5=>by rw [qx3];exact h3 hn x h4 h5⟩
     have k1:=h1.row i (by rw [h1.len];have:=hp.len;omega)
     have k2:=hlastrow i hi;omega
  ·rw [if_neg hf];have hf:full inner outer rows=false:=by simpa using hf
   rcases List.eq_nil_or_concat rows with rfl | ⟨R,r,rfl⟩
   ·simp [full] at hf
   rw [List.concat_eq_append] at *;have hlt:=hp.lt8 hf;rw [qet];have hbox:∀ {y:Int} {l:List Int},qcu inner (R++[r])≤y→y≤most→(nul=false→l.length=most∧∀ x∈l,0≤x∧x≤8)→(nul=false→sumN l+1=sumN left) →
     (T∈fil inner outer most nul n l (R++[r++[y]])↔Tab inner outer most T∧Pre (R++[r++[y]]) T∧(nul=false→Left most l (R++[r++[y]]) T)):=fun {y l} h1 h2 h3 h4 =>
    qsb (hp.box hf ⟨(qgt.1 h1).1,h2⟩ h3) (q9m ho h1) (fun hn=>⟨(hs hn).tot,by have:=(hs hn).sum;have:=h4 hn;simp only [List.flatten_append,List.flatten_cons,List.flatten_nil,wci,waf,wbf,wbm] at *;omega⟩)
   have hpre:∀ {y:Int},Pre (R++[r++[y]]) T→Pre (R++[r]) T:=fun {y} h=>by
    obtain ⟨s,U,rfl⟩:=qoz h;rw [way];exact Pre.app R r _ U
   have hnext:Tab inner outer most T→Pre (R++[r]) T→∃ y,Pre (R++[r++[y]]) T∧qcu inner (R++[r])≤y∧y≤most∧cnt y (R++[r])+1≤cnt y T:=fun h1 h2=>by
    obtain ⟨s,U,rfl⟩:=qoz h2;have h3:=h1.row R.length (by simp)
    rw [qce] at h3
    cases s with
    | nil=>simp only [wci] at h3;omega
    | cons y s =>
     have he:=h1.ent (r++y::s) (by simp) y (by simp)
     refine ⟨y,?_,q3c h1.ord he.1,he.2,?_⟩
     ·have:=Pre.app R (r++[y]) s U;simpa using this
     ·rw [zar,List.count_cons_self];omega
   cases nul with
   | true =>
    constructor
    ·rintro ⟨y,h1,h2,h3⟩;unfold useX at h3;rw [if_pos rfl,qc7,hbox h1 (by omega) (fun h=>by cases h) (fun h=>by cases h)] at h3
     exact ⟨h3.1,hpre h3.2.1,fun h=>by cases h⟩
    ·rintro ⟨h1,h2,h3⟩;obtain ⟨y,k1,k2,k3,_⟩:=hnext h1 h2;refine ⟨y,k2,by omega,?_⟩
     unfold useX;rw [if_pos rfl,qc7,hbox k2 k3 (fun h=>by cases h) (fun h=>by cases h)]
     exact ⟨h1,k1,fun h=>by cases h⟩
   | false =>
    have hlf:=hp.lf rfl;have hq:∀ {y:Int},1≤y→y≤most→(y-1).toNat<left.length:=fun {y} h1 h2=>by omega
    have hset:∀ {y:Int},1≤y→y≤most→left.getD (y-1).toNat 0≠0→((left.set (y-1).toNat (left.getD (y-1).toNat 0-1)).length:Int)=most∧∀ x∈left.set (y-1).toNat (left.getD (y-1).toNat 0-1),0≤x∧x≤8:=fun {y} h1 h2 hz=>by
     have hv:=hlf.2 _ (qg8 (d:=0) (hq h1 h2));refine ⟨by simpa using hlf.1,fun z hy=>?_⟩
     rcases List.mem_or_eq_of_mem_set hy with h2 | h2
     ·exact hlf.2 z h2
     ·omega
    have hsum:∀ {y:Int},1≤y→y≤most→left.getD (y-1).toNat 0≠0→sumN (left.set (y-1).toNat (left.getD (y-1).toNat 0-1))+1=sumN left:=fun {y} h1 h2 hz=>by
     have hv:=hlf.2 _ (qg8 (d:=0) (hq h1 h2));exact qmw (hq h1 h2) (by omega)
    have hleft:∀ {y:Int},1≤y→y≤most→left.getD (y-1).toNat 0≠0→(Left most (left.set (y-1).toNat (left.getD (y-1).toNat 0-1)) (R++[r++[y]]) T↔Left most left (R++[r]) T):=fun {y} h1 h2 hz=>by
     have hqy:=hq h1 h2;unfold Left;refine forall_congr' fun x=>forall_congr' fun h3=>forall_congr' fun h4=>?_
     rw [q9s]
     by_cases hxy:y=x
     ·subst hxy;rw [if_pos rfl];have:(left.set (y-1).toNat (left.getD (y-1).toNat 0-1)).getD (y-1).toNat 0=left.getD (y-1).toNat 0-1:=by
       rw [waa,List.getElem?_set_self hqy];rfl
      rw [this];omega
     ·rw [if_neg hxy];have hne:(y-1).toNat≠(x-1).toNat:=by omega
      have:(left.set (y-1).toNat (left.getD (y-1).toNat 0-1)).getD (x-1).toNat 0=left.getD (x-1).toNat 0:=by
       rw [waa,wai hne,← waa]
      rw [this];omega
    constructor
    ·rintro ⟨y,h1,h2,h3⟩;have hy1:=(qgt.1 h1).1;unfold useX at h3;rw [if_neg (by simp)] at h3
     split at h3
     ·cases h3
     ·rename_i hz;rw [qc7,hbox h1 (by omega) (fun _=>hset hy1 (by omega) hz) (fun _=>hsum hy1 (by omega) hz)] at h3
      exact ⟨h3.1,hpre h3.2.1,fun _=>(hleft hy1 (by omega) hz).1 (h3.2.2 rfl)⟩
    ·rintro ⟨h1,h2,h3⟩;obtain ⟨y,k1,k2,k3,k4⟩:=hnext h1 h2;have hy1:=(qgt.1 k2).1;have hz:left.getD (y-1).toNat 0≠0:=by
      have:=h3 rfl y hy1 k3;omega
     refine ⟨y,k2,by omega,?_⟩
     unfold useX;rw [if_neg (by simp),if_neg hz,qc7,hbox k2 k3 (fun _=>hset hy1 k3 hz) (fun _=>hsum hy1 k3 hz)]
     exact ⟨h1,k1,fun _=>(hleft hy1 k3 hz).2 (h3 rfl)⟩
theorem qsf {inner outer:List Int} {most:Int} {nul:Bool} {T:List (List Int)}:∀ {n:Nat} {left:List Int} {rows:List (List Int)},T∈fil inner outer most nul n left rows→Pre rows T
 | 0,left,rows,h=>by simp [fil] at h
 | n+1,left,rows,h=>by
  rw [fil] at h;split at h
  ·split at h
   ·rw [List.mem_singleton.1 h]
    rcases List.eq_nil_or_concat rows with rfl | ⟨R,r,rfl⟩
    ·exact .nil _
    ·have:=Pre.app R r [] [];simpa using this
   ·exact qts (qsf h)
  ·rename_i hf;have hf:full inner outer rows=false:=by simpa using hf
   rcases List.eq_nil_or_concat rows with rfl | ⟨R,r,rfl⟩
   ·simp [full] at hf
   rw [List.concat_eq_append] at *;obtain ⟨y,h1,h2,h3⟩:=qet.1 h;have key:∀ l,T∈fil inner outer most nul n l (addX (R++[r]) y)→Pre (R++[r]) T:=fun l h=>by
    rw [qc7] at h;obtain ⟨s,U,rfl⟩:=qoz (qsf h);rw [way];exact Pre.app R r _ U
   unfold useX at h3;split at h3
   ·exact key _ h3
   ·split at h3
    ·cases h3
    ·exact key _ h3
theorem qh3 {inner outer:List Int} {most:Int} {nul:Bool}:∀ {n:Nat} {left:List Int} {rows:List (List Int)},(fil inner outer most nul n left rows).Nodup
 | 0,left,rows=>by simp [fil]
 | n+1,left,rows=>by
  rw [fil];split
  ·split
   ·simp
   ·exact qh3
  ·rename_i hf;have hf:full inner outer rows=false:=by simpa using hf
   rcases List.eq_nil_or_concat rows with rfl | ⟨R,r,rfl⟩
   ·simp [full] at hf
   rw [List.concat_eq_append];have hU:∀ y T,T∈useX left nul y (fun l=>fil inner outer most nul n l (addX (R++[r]) y))→Pre (R++[r++[y]]) T:=fun y T h=>by
    rw [← qc7];unfold useX at h;split at h
    ·exact qsf h
    ·split at h
     ·cases h
     ·exact qsf h
   refine ql4 (fun y _ _=>?_) (fun y z T _ hyz _ hy hz=>?_)
   ·unfold useX;split
    ·exact qh3
    ·split
     ·simp
     ·exact qh3
   ·obtain ⟨s,U,e1⟩:=qoz (hU y T hy);obtain ⟨s',U',e2⟩:=qoz (hU z T hz);have h1:(T.getD R.length []).getD r.length 0=y:=by rw [e1,qce,way];simp [qce]
    have h2:(T.getD R.length []).getD r.length 0=z:=by rw [e2,qce,way];simp [qce]
    omega
def upTo (lo hi:Nat):List Nat:=(List.range (hi+1-lo)).map (lo+·)
theorem q6l {lo hi v:Nat}:v∈upTo lo hi↔lo≤v∧v≤hi:=by
 unfold upTo;rw [List.mem_map];constructor
 ·rintro ⟨x,hx,rfl⟩;have:=List.mem_range.1 hx;omega
 ·rintro ⟨h1,h2⟩;exact ⟨v-lo,List.mem_range.2 (by omega),by omega⟩
def Dec (l:List Nat):Prop:=∀ i,l.getD (i+1) 0≤l.getD i 0
def toI (l:List Nat):List Int:=l.map fun (n:Nat)=>(n:Int)
theorem qhz {l:List Nat} {i:Nat}:(toI l).getD i 0=(l.getD i 0:Nat):=by
 unfold toI;rw [waa,waq,waa];cases l[i]?<;>rfl
theorem qwm {T:List (List Int)} {i:Nat}:(T.map List.length).getD i 0=(T.getD i []).length:=by
 rw [waa,waq,waa];cases T[i]?<;>rfl
theorem qnd {T:List (List Int)}:T.flatten.length=(T.map List.length).sum:=by rw [List.length_flatten]
structure Small8 (l:List Nat):Prop where
 dec:Dec l
 len:l.length≤8
 le8:∀ i,l.getD i 0≤8
end Go.Schur
