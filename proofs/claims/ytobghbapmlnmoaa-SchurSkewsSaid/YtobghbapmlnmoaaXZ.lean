/- Straight: what it tells of a skew filling. -/
import Derived.Test.YtobghbapmlnmoaaXY
import Derived.Test.YtobghbapmlnmoaaYT1
import Derived.Test.YtobghbapmlnmoaaYT2
import Derived.Test.YtobghbapmlnmoaaYT3
import Derived.Test.YtobghbapmlnmoaaYT4
import Derived.Test.YtobghbapmlnmoaaXT
import Derived.Test.YtobghbapmlnmoaaXN
import Derived.Test.YtobghbapmlnmoaaXH
import Derived.Test.YtobghbapmlnmoaaY14
import Derived.Test.YtobghbapmlnmoaaYT5
import Derived.Test.YtobghbapmlnmoaaYT6
import Derived.Test.YtobghbapmlnmoaaYT7
import Derived.Test.YtobghbapmlnmoaaYT8
import Derived.Test.YtobghbapmlnmoaaYT9
import Derived.Test.YtobghbapmlnmoaaXO
set_option linter.unusedVariables false
set_option linter.unusedSimpArgs false
set_option maxRecDepth 100000
namespace Go.Schur
noncomputable section
open Go Go.Ab Go.Proofs
theorem zan {m w:List Nat} (hm:m∈allP) (h8:m.sum≤8) (hv:qkp m [] w) (hl:m.sum+w.length≤8):chkN m w=true:=by
 have hf:∀ s,m.sum=s→m∈allP.filter (fun (m:List Nat)=>Nat.beq m.sum s):=fun s hs=>List.mem_filter.2 ⟨hm,by rw [hs];exact Nat.beq_refl s⟩
 have key:goN m (8-m.sum) []=true:=by
  rcases (by omega:m.sum=0∨m.sum=1∨m.sum=2∨m.sum=3∨m.sum=4∨m.sum=5∨m.sum=6∨m.sum=7∨m.sum=8) with h | h | h | h | h | h | h | h | h
  ·rw [h];exact List.all_eq_true.1 zdp m (hf _ h)
  ·rw [h];exact List.all_eq_true.1 zc7 m (hf _ h)
  ·rw [h];exact List.all_eq_true.1 zde m (hf _ h)
  ·rw [h];exact List.all_eq_true.1 zdq m (hf _ h)
  ·rw [h];exact List.all_eq_true.1 zdc m (hf _ h)
  ·rw [h];exact List.all_eq_true.1 zdr m (hf _ h)
  ·rw [h];exact List.all_eq_true.1 zda m (hf _ h)
  ·rw [h];exact List.all_eq_true.1 zd3 m (hf _ h)
  ·rw [h];exact List.all_eq_true.1 zdh m (hf _ h)
 exact q8i _ [] w key hv (by omega)
theorem zbd {l:List Int} {R R':List (List Int)} (hg:∀ i,R.getD i []=R'.getD i []) {i:Nat} {c:Int}:atR l R i c=atR l R' i c:=by
 unfold atR el;rw [hg]
theorem q99 {l:List Int} {R R':List (List Int)} (h:BedR l R) (hg:∀ i,R.getD i []=R'.getD i []) (h1:l.length≤R'.length) (h2:R'.length≤20):BedR l R':=by
 have ho:∀ i,outI l R' i=outI l R i:=fun i=>by unfold outI;rw [hg]
 refine ⟨h.shp,h1,h2,fun i=>by rw [ho,ho];exact h.dec i,by rw [ho];exact h.o8,fun i j hj=>?_⟩
 rw [← hg] at hj;have:=h.ent i j hj;unfold el at this ⊢;rw [← hg];exact this
theorem q5l {l:List Int} {R R':List (List Int)} (h:BedR l R) (h':BedR l R') (hg:∀ i,R.getD i []=R'.getD i []):qml ((l,R,()):SkD)=qml ((l,R',()):SkD):=by
 obtain ⟨xs,hx,hb⟩:=q72 l R;obtain ⟨R1,e1,_,_,s1⟩:=qm5 h;obtain ⟨R2,e2,_,_,s2⟩:=qm5 h';have h1:=s1 xs hb;have h2:=s2 xs fun a b ha hb'=>by rw [hb a b ha hb',zbd hg]
 rw [e1,e2,← h1,← h2]
theorem q50 (rows:List (List Int)) (x:Int):cntF rows x=((rows.flatten.countP fun y=>decide (y=x):Nat):Int):=by
 unfold cntF;rw [List.countP_flatten]
theorem qns:∀ (R:List (List Int)) (k:Nat),(qg1 k R).map (·.2)=R.flatten
 | [],_=>rfl
 | r::R,k=>by
  rw [qg1,wbx,qns R (k+1),List.map_map,List.flatten_cons];congr 1;exact List.map_id r
theorem qvd {l:List Int} {R:List (List Int)} (h:SkOk l R):∃ (m w:List Nat) (f:Nat→Int) (U:List (List Nat)),l=toI m∧m∈allP∧w=(qa9 R).map (·.1)∧f=fW (qa9 R)∧Fit f w w.length∧qkp m [] w∧m.sum+w.length≤8∧qml ((l,R,()):SkD)=sk f (trN (m,qeh w)) ∧
  strN w 40 (trN (m,qeh w))=some U∧okN2 w w.length ([],U)=true∧(∀ r∈U,r.length≠0)∧U.flatten.Perm (List.range' 1 w.length) ∧
  ∀ r,gN m (r+1)<gN m r→r<m.length→∃ u,sldN w (trN (m,qeh w)) r=some u∧okN2 w w.length u=true∧trN u=u∧strN w 40 u=some U:=by
 obtain ⟨m,hm,rfl,_,_,h8⟩:=qef h.shp;obtain ⟨hv,hl⟩:=qlt h;have hlen:((qa9 R).map (·.1)).length=(qa9 R).length:=war ..;have hc:=zan hm h8 hv (by rw [hlen];exact hl)
 have hE:∀ a∈qa9 R,1≤a.2∧a.2≤8:=fun a ha=>by
  obtain ⟨k,hk,he⟩:=q6k ha;rw [← he];exact (h.cnd _ (qql (by omega))).ent k hk
 have hF:=zbe (qco R) hE;have hg:∀ i,R.getD i []=(mapR (fW (qa9 R)) (qeh ((qa9 R).map (·.1)))).getD i []:=fun i=>by
  rw [qu4,qe8 (qkx h)]
  by_cases hi:i<8
  ·rw [if_pos hi]
  ·rw [if_neg hi];have:¬ 0<(R.getD i []).length:=fun h0=>hi (q1k h h0)
   exact wb5 (by omega)
 have hb:=qq8 h;have hl8:=(qal.1 h.shp).1;have hR8:(mapR (fW (qa9 R)) (qeh ((qa9 R).map (·.1)))).length=8:=by unfold mapR qeh;simp
 have hb':=q99 hb hg (by rw [hR8];exact hl8) (by rw [hR8];omega)
 unfold chkN at hc
 cases hs:strN ((qa9 R).map (·.1)) 40 (trN (m,qeh ((qa9 R).map (·.1)))) with
 | none=>rw [hs] at hc;cases hc
 | some U =>
  rw [hs] at hc;simp only [wbc] at hc;obtain ⟨⟨⟨c1,c2⟩,c3⟩,c4⟩:=hc;refine ⟨m,(qa9 R).map (·.1),fW (qa9 R),U,rfl,hm,rfl,rfl,?_⟩;refine And.intro (by rw [hlen];exact hF) (And.intro hv (And.intro (by rw [hlen];exact hl) (And.intro ?_ (And.intro hs (And.intro c1 (And.intro (fun r hr h0=>?_) (And.intro (List.isPerm_iff.1 c3) (fun r hr1 hr2=>?_))))))))
  ·rw [q5l hb hb' hg];exact q8a (s:=(m,qeh ((qa9 R).map (·.1))))
  ·have:=List.all_eq_true.1 c2 r hr;rw [h0] at this;cases this
  ·have:=List.all_eq_true.1 c4 r (List.mem_range.2 hr2);rw [show Nat.blt (gN m (r+1)) (gN m r)=true by rw [Nat.blt_eq];exact hr1,wbs] at this
   cases hu:sldN ((qa9 R).map (·.1)) (trN (m,qeh ((qa9 R).map (·.1)))) r with
   | none=>rw [hu] at this;cases this
   | some u =>
    rw [hu] at this;simp only [wbc,wbn] at this;exact ⟨u,rfl,this.1.1,this.1.2,this.2⟩
theorem SkOk.okRs {t:SkD} (h:SkOk t.1 t.2.1):okRs t:=BedR.ok (qq8 h)
def qmj:SCon:=mkS 20 [.v LI] [] [.slf 0 1] [.arr I64 true] (fun (l:List Int)=>[]) (fun (l:List Int)=>(l.take 12,()))
def g20t (x0:List Int):Option (List Int×Unit):=gd (0≤imin (↑(List.length x0):Int) 12∧imin (↑(List.length x0):Int) 12≤(↑(List.length x0):Int)) (gd (List.length (List.take (Int.toNat (imin (↑(List.length x0):Int) 12)) x0)≤100000) (gd (List.length (List.take (Int.toNat (imin (↑(List.length x0):Int) 12)) x0)=List.length (List.take (Int.toNat (imin (↑(List.length x0):Int) 12)) x0)) (some ((List.take (Int.toNat (imin (↑(List.length x0):Int) 12)) x0,()):List Int×Unit))))
def q3e:List LSh:=([]:List LSh)
def qqz:SCon:=mkS 32 [.v LLI] [] [.slf 0 1] [.nest I64] (fun (t:List (List Int))=>[small t]) (fun (t:List (List Int))=>(tabF t,()))
def g32s (x0:List (List Int)):Option (List (List Int)×Unit):=gd ((0:Nat)=0) (qat (fun (d1:Int×List (List Int)×Unit)=>bif ilt d1.1 (↑(List.length x0):Int) then gd (0≤d1.1∧d1.1<(↑(List.length x0):Int)) (bif ilt d1.1 12 then gd (List.length (List.take 12 (List.getD x0 (Int.toNat d1.1) ([]:List Int)))=List.length (List.take 12 (List.getD x0 (Int.toNat d1.1) ([]:List Int)))) (gd (List.length d1.2.1≤List.length d1.2.1) (gd ((List.length d1.2.1+1)*(24:Nat)≤1099511627776) (gd (List.length d1.2.1+1=List.length (List.take (List.length d1.2.1) d1.2.1++List.take 12 (List.getD x0 (Int.toNat d1.1) ([]:List Int))::([]:List (List Int)))) (some (Lp.go ((wr .i64 (d1.1+1),List.take (List.length d1.2.1) d1.2.1++List.take 12 (List.getD x0 (Int.toNat d1.1) ([]:List Int))::([]:List (List Int)),()):Int×List (List Int)×Unit)))))) else gd (List.length d1.2.1=List.length d1.2.1) (some (Lp.go ((wr .i64 (d1.1+1),d1.2.1,()):Int×List (List Int)×Unit)))) else gd (List.length d1.2.1=List.length d1.2.1) (some (Lp.out ((d1.2.1,()):List (List Int)×Unit)))) ((0,([]:List (List Int)),()):Int×List (List Int)×Unit))
def q4a:List LSh:=LSh.mk (((3,TV.slf (0) (1)):Nat×TV)::((8,TV.v (Ty.int .i64)):Nat×TV)::([]:List (Nat×TV))) (TB.nest (Ty.int .i64)::([]:List TB))::([]:List LSh)
def qmo (a:List Int) (rows:List (List Int)) (i:Nat):Bool :=
 !(decide (0<(rows.getD i []).length-1) && decide ((rows.getD i []).getD ((rows.getD i []).length-1) 0<(rows.getD i []).getD ((rows.getD i []).length-2) 0)) &&
 (decide (i=0) || (let c:=a.getD i 0+(((rows.getD i []).length-1:Nat):Int)-a.getD (i-1) 0
  decide (c<0) || decide (((rows.getD (i-1) []).length:Int)≤c) || decide ((rows.getD (i-1) []).getD c.toNat 0<(rows.getD i []).getD ((rows.getD i []).length-1) 0)))
def okLs (a:List Int):Prop:=a.length≤8∧∀ x∈a,0≤x∧x≤8
def okBg (rows:List (List Int)):Prop:=rows.length≤8∧∀ r∈rows,r.length≤12
def qq4:Con:=mkC 101 [.d LI,.d LLI,.d I64] [.bool] (fun (a:List Int) (rows:List (List Int)) (i:Int)=>[okLs a∧okBg rows∧0≤i∧i<(rows.length:Int)∧0<(rows.getD i.toNat []).length]) (fun (a:List Int) (rows:List (List Int)) (i:Int)=>(qmo a rows i.toNat,()))
def q15 (x1:List (List Int)) (x2:Int):Int:=List.getD (List.getD x1 (Int.toNat x2) ([]:List Int)) (Int.toNat (wr .i64 (wr .i64 ((↑(List.length (List.getD x1 (Int.toNat x2) ([]:List Int))):Int)-1)-1))) 0
def q21 (x1:List (List Int)) (x2:Int):Bool:=ilt (List.getD (List.getD x1 (Int.toNat x2) ([]:List Int)) (Int.toNat (wr .i64 ((↑(List.length (List.getD x1 (Int.toNat x2) ([]:List Int))):Int)-1))) 0) (q15 x1 x2)
def qan (x0:List Int) (x1:List (List Int)) (x2:Int):Int:=wr .i64 (List.getD x0 (Int.toNat x2) 0+wr .i64 ((↑(List.length (List.getD x1 (Int.toNat x2) ([]:List Int))):Int)-1))
def q35 (x0:List Int) (x1:List (List Int)) (x2:Int):Bool:=ile (↑(List.length (List.getD x1 (Int.toNat (wr .i64 (x2-1))) ([]:List Int))):Int) (wr .i64 (qan x0 x1 x2-List.getD x0 (Int.toNat (wr .i64 (x2-1))) 0))
def qbz (x0:List Int) (x1:List (List Int)) (x2:Int):Bool:=bif ilt (wr .i64 (qan x0 x1 x2-List.getD x0 (Int.toNat (wr .i64 (x2-1))) 0)) 0 then true else q35 x0 x1 x2
def q4b (x0:List Int) (x1:List (List Int)) (x2:Int):Int:=List.getD (List.getD x1 (Int.toNat (wr .i64 (x2-1))) ([]:List Int)) (Int.toNat (wr .i64 (qan x0 x1 x2-List.getD x0 (Int.toNat (wr .i64 (x2-1))) 0))) 0
def q2m (x0:List Int) (x1:List (List Int)) (x2:Int):Bool:=ilt (q4b x0 x1 x2) (List.getD (List.getD x1 (Int.toNat x2) ([]:List Int)) (Int.toNat (wr .i64 ((↑(List.length (List.getD x1 (Int.toNat x2) ([]:List Int))):Int)-1))) 0)
def qb2 (x0:List Int) (x1:List (List Int)) (x2:Int):Bool:=ile (↑(List.length (List.getD x1 (Int.toNat (wr .i64 (x2-1))) ([]:List Int))):Int) (wr .i64 (qan x0 x1 x2-0))
def q4l (x0:List Int) (x1:List (List Int)) (x2:Int):Int:=List.getD (List.getD x1 (Int.toNat (wr .i64 (x2-1))) ([]:List Int)) (Int.toNat (wr .i64 (qan x0 x1 x2-0))) 0
def q2j (x0:List Int) (x1:List (List Int)) (x2:Int):Bool:=ilt (q4l x0 x1 x2) (List.getD (List.getD x1 (Int.toNat x2) ([]:List Int)) (Int.toNat (wr .i64 ((↑(List.length (List.getD x1 (Int.toNat x2) ([]:List Int))):Int)-1))) 0)
def qau (x0:List Int) (x1:List (List Int)) (x2:Int):Int:=wr .i64 (wr .i64 (0+wr .i64 ((↑(List.length (List.getD x1 (Int.toNat x2) ([]:List Int))):Int)-1))-List.getD x0 (Int.toNat (wr .i64 (x2-1))) 0)
def qcy (x0:List Int) (x1:List (List Int)) (x2:Int):Bool:=!bif ilt (qau x0 x1 x2) 0 then true else ile (↑(List.length (List.getD x1 (Int.toNat (wr .i64 (x2-1))) ([]:List Int))):Int) (qau x0 x1 x2)
def qxt (x0:List Int) (x1:List (List Int)) (x2:Int):Bool:=ilt (List.getD (List.getD x1 (Int.toNat (wr .i64 (x2-1))) ([]:List Int)) (Int.toNat (qau x0 x1 x2)) 0) (List.getD (List.getD x1 (Int.toNat x2) ([]:List Int)) (Int.toNat (wr .i64 ((↑(List.length (List.getD x1 (Int.toNat x2) ([]:List Int))):Int)-1))) 0)
def qzd (x0:List Int) (x1:List (List Int)) (x2:Int):Bool:=bif bif ilt (qau x0 x1 x2) 0 then true else ile (↑(List.length (List.getD x1 (Int.toNat (wr .i64 (x2-1))) ([]:List Int))):Int) (qau x0 x1 x2) then true else qxt x0 x1 x2
def qai (x1:List (List Int)) (x2:Int):Int:=wr .i64 (wr .i64 (0+wr .i64 ((↑(List.length (List.getD x1 (Int.toNat x2) ([]:List Int))):Int)-1))-0)
def qxr (x1:List (List Int)) (x2:Int):Bool:=ilt (List.getD (List.getD x1 (Int.toNat (wr .i64 (x2-1))) ([]:List Int)) (Int.toNat (qai x1 x2)) 0) (List.getD (List.getD x1 (Int.toNat x2) ([]:List Int)) (Int.toNat (wr .i64 ((↑(List.length (List.getD x1 (Int.toNat x2) ([]:List Int))):Int)-1))) 0)
def qyp (x1:List (List Int)) (x2:Int):Bool:=bif bif ilt (qai x1 x2) 0 then true else ile (↑(List.length (List.getD x1 (Int.toNat (wr .i64 (x2-1))) ([]:List Int))):Int) (qai x1 x2) then true else qxr x1 x2
open List Int in
def g101 (x0:List Int) (x1:List (List Int)) (x2:Int):Option (Bool×Unit):=gd (0≤x2∧x2<(↑(length x1):Int)) (gd (ilt 0 (wr .i64 ((↑(length (getD x1 (toNat x2) ([]:List Int))):Int)-1))=true→ilt 0 (wr .i64 ((↑(length (getD x1 (toNat x2) ([]:List Int))):Int)-1))=true) (gd (ilt 0 (wr .i64 ((↑(length (getD x1 (toNat x2) ([]:List Int))):Int)-1))=true→ilt 0 (wr .i64 ((↑(length (getD x1 (toNat x2) ([]:List Int))):Int)-1))=true∧ilt 0 (wr .i64 ((↑(length (getD x1 (toNat x2) ([]:List Int))):Int)-1))=true∧0≤wr .i64 (wr .i64 ((↑(length (getD x1 (toNat x2) ([]:List Int))):Int)-1)-1)∧wr .i64 (wr .i64 ((↑(length (getD x1 (toNat x2) ([]:List Int))):Int)-1)-1)<(↑(length (getD x1 (toNat x2) ([]:List Int))):Int)) (gd (ilt 0 (wr .i64 ((↑(length (getD x1 (toNat x2) ([]:List Int))):Int)-1))=true→ilt 0 (wr .i64 ((↑(length (getD x1 (toNat x2) ([]:List Int))):Int)-1))=true) (gd (ilt 0 (wr .i64 ((↑(length (getD x1 (toNat x2) ([]:List Int))):Int)-1))=true→ilt 0 (wr .i64 ((↑(length (getD x1 (toNat x2) ([]:List Int))):Int)-1))=true∧ilt 0 (wr .i64 ((↑(length (getD x1 (toNat x2) ([]:List Int))):Int)-1))=true∧0≤wr .i64 ((↑(length (getD x1 (toNat x2) ([]:List Int))):Int)-1)∧wr .i64 ((↑(length (getD x1 (toNat x2) ([]:List Int))):Int)-1)<(↑(length (getD x1 (toNat x2) ([]:List Int))):Int)) (gd (ilt 0 (wr .i64 ((↑(length (getD x1 (toNat x2) ([]:List Int))):Int)-1))=true→ilt 0 (wr .i64 ((↑(length (getD x1 (toNat x2) ([]:List Int))):Int)-1))=true) (gd (ilt 0 (wr .i64 ((↑(length (getD x1 (toNat x2) ([]:List Int))):Int)-1))=true→ilt 0 (wr .i64 ((↑(length (getD x1 (toNat x2) ([]:List Int))):Int)-1))=true∧ilt 0 (wr .i64 ((↑(length (getD x1 (toNat x2) ([]:List Int))):Int)-1))=true) (gd (ilt 0 (wr .i64 ((↑(length (getD x1 (toNat x2) ([]:List Int))):Int)-1))=true→ilt 0 (wr .i64 ((↑(length (getD x1 (toNat x2) ([]:List Int))):Int)-1))=true) (bif bif ilt 0 (wr .i64 ((↑(length (getD x1 (toNat x2) ([]:List Int))):Int)-1)) then q21 x1 x2 else false then some ((false,()):Bool×Unit) else bif ieq x2 0 then some ((true,()):Bool×Unit) else bif ilt x2 (↑(length x0):Int) then gd (0≤x2∧x2<(↑(length x0):Int)) (bif ilt (wr .i64 (x2-1)) (↑(length x0):Int) then gd (0≤wr .i64 (x2-1)∧wr .i64 (x2-1)<(↑(length x0):Int)) (gd ((!ilt (wr .i64 (qan x0 x1 x2-getD x0 (toNat (wr .i64 (x2-1))) 0)) 0)=true→(!ilt (wr .i64 (qan x0 x1 x2-getD x0 (toNat (wr .i64 (x2-1))) 0)) 0)=true) (gd ((!ilt (wr .i64 (qan x0 x1 x2-getD x0 (toNat (wr .i64 (x2-1))) 0)) 0)=true→(!ilt (wr .i64 (qan x0 x1 x2-getD x0 (toNat (wr .i64 (x2-1))) 0)) 0)=true∧(!ilt (wr .i64 (qan x0 x1 x2-getD x0 (toNat (wr .i64 (x2-1))) 0)) 0)=true∧0≤wr .i64 (x2-1)∧wr .i64 (x2-1)<(↑(length x1):Int)) (gd ((!ilt (wr .i64 (qan x0 x1 x2-getD x0 (toNat (wr .i64 (x2-1))) 0)) 0)=true→(!ilt (wr .i64 (qan x0 x1 x2-getD x0 (toNat (wr .i64 (x2-1))) 0)) 0)=true) (gd ((!ilt (wr .i64 (qan x0 x1 x2-getD x0 (toNat (wr .i64 (x2-1))) 0)) 0)=true→(!ilt (wr .i64 (qan x0 x1 x2-getD x0 (toNat (wr .i64 (x2-1))) 0)) 0)=true) (gd ((!ilt (wr .i64 (qan x0 x1 x2-getD x0 (toNat (wr .i64 (x2-1))) 0)) 0)=true→(!ilt (wr .i64 (qan x0 x1 x2-getD x0 (toNat (wr .i64 (x2-1))) 0)) 0)=true∧(!ilt (wr .i64 (qan x0 x1 x2-getD x0 (toNat (wr .i64 (x2-1))) 0)) 0)=true) (gd (ilt (wr .i64 (qan x0 x1 x2-getD x0 (toNat (wr .i64 (x2-1))) 0)) 0=false→(!ilt (wr .i64 (qan x0 x1 x2-getD x0 (toNat (wr .i64 (x2-1))) 0)) 0)=true) (gd ((!qbz x0 x1 x2)=true→(!qbz x0 x1 x2)=true) (gd ((!qbz x0 x1 x2)=true→(!qbz x0 x1 x2)=true∧(!qbz x0 x1 x2)=true∧0≤wr .i64 (x2-1)∧wr .i64 (x2-1)<(↑(length x1):Int)) (gd ((!qbz x0 x1 x2)=true→(!qbz x0 x1 x2)=true) (gd ((!qbz x0 x1 x2)=true→(!qbz x0 x1 x2)=true∧(!qbz x0 x1 x2)=true∧0≤wr .i64 (qan x0 x1 x2-getD x0 (toNat (wr .i64 (x2-1))) 0)∧wr .i64 (qan x0 x1 x2-getD x0 (toNat (wr .i64 (x2-1))) 0)<(↑(length (getD x1 (toNat (wr .i64 (x2-1))) ([]:List Int))):Int)) (gd ((!qbz x0 x1 x2)=true→(!qbz x0 x1 x2)=true) (gd ((!qbz x0 x1 x2)=true→(!qbz x0 x1 x2)=true∧(!qbz x0 x1 x2)=true∧0≤wr .i64 ((↑(length (getD x1 (toNat x2) ([]:List Int))):Int)-1)∧wr .i64 ((↑(length (getD x1 (toNat x2) ([]:List Int))):Int)-1)<(↑(length (getD x1 (toNat x2) ([]:List Int))):Int)) (gd ((!qbz x0 x1 x2)=true→(!qbz x0 x1 x2)=true) (gd ((!qbz x0 x1 x2)=true→(!qbz x0 x1 x2)=true∧(!qbz x0 x1 x2)=true) (gd (qbz x0 x1 x2=false→(!qbz x0 x1 x2)=true) (some ((bif qbz x0 x1 x2 then true else q2m x0 x1 x2,()):Bool×Unit))))))))))))))))) else gd ((!ilt (wr .i64 (qan x0 x1 x2-0)) 0)=true→(!ilt (wr .i64 (qan x0 x1 x2-0)) 0)=true) (gd ((!ilt (wr .i64 (qan x0 x1 x2-0)) 0)=true→(!ilt (wr .i64 (qan x0 x1 x2-0)) 0)=true∧(!ilt (wr .i64 (qan x0 x1 x2-0)) 0)=true∧0≤wr .i64 (x2-1)∧wr .i64 (x2-1)<(↑(length x1):Int)) (gd ((!ilt (wr .i64 (qan x0 x1 x2-0)) 0)=true→(!ilt (wr .i64 (qan x0 x1 x2-0)) 0)=true) (gd ((!ilt (wr .i64 (qan x0 x1 x2-0)) 0)=true→(!ilt (wr .i64 (qan x0 x1 x2-0)) 0)=true) (gd ((!ilt (wr .i64 (qan x0 x1 x2-0)) 0)=true→(!ilt (wr .i64 (qan x0 x1 x2-0)) 0)=true∧(!ilt (wr .i64 (qan x0 x1 x2-0)) 0)=true) (gd (ilt (wr .i64 (qan x0 x1 x2-0)) 0=false→(!ilt (wr .i64 (qan x0 x1 x2-0)) 0)=true) (gd ((!bif ilt (wr .i64 (qan x0 x1 x2-0)) 0 then true else qb2 x0 x1 x2)=true→(!bif ilt (wr .i64 (qan x0 x1 x2-0)) 0 then true else qb2 x0 x1 x2)=true) (gd ((!bif ilt (wr .i64 (qan x0 x1 x2-0)) 0 then true else qb2 x0 x1 x2)=true→(!bif ilt (wr .i64 (qan x0 x1 x2-0)) 0 then true else qb2 x0 x1 x2)=true∧(!bif ilt (wr .i64 (qan x0 x1 x2-0)) 0 then true else qb2 x0 x1 x2)=true∧0≤wr .i64 (x2-1)∧wr .i64 (x2-1)<(↑(length x1):Int)) (gd ((!bif ilt (wr .i64 (qan x0 x1 x2-0)) 0 then true else qb2 x0 x1 x2)=true→(!bif ilt (wr .i64 (qan x0 x1 x2-0)) 0 then true else qb2 x0 x1 x2)=true) (gd ((!bif ilt (wr .i64 (qan x0 x1 x2-0)) 0 then true else qb2 x0 x1 x2)=true→(!bif ilt (wr .i64 (qan x0 x1 x2-0)) 0 then true else qb2 x0 x1 x2)=true∧(!bif ilt (wr .i64 (qan x0 x1 x2-0)) 0 then true else qb2 x0 x1 x2)=true∧0≤wr .i64 (qan x0 x1 x2-0)∧wr .i64 (qan x0 x1 x2-0)<(↑(length (getD x1 (toNat (wr .i64 (x2-1))) ([]:List Int))):Int)) (gd ((!bif ilt (wr .i64 (qan x0 x1 x2-0)) 0 then true else qb2 x0 x1 x2)=true→(!bif ilt (wr .i64 (qan x0 x1 x2-0)) 0 then true else qb2 x0 x1 x2)=true) (gd ((!bif ilt (wr .i64 (qan x0 x1 x2-0)) 0 then true else qb2 x0 x1 x2)=true→(!bif ilt (wr .i64 (qan x0 x1 x2-0)) 0 then true else qb2 x0 x1 x2)=true∧(!bif ilt (wr .i64 (qan x0 x1 x2-0)) 0 then true else qb2 x0 x1 x2)=true∧0≤wr .i64 ((↑(length (getD x1 (toNat x2) ([]:List Int))):Int)-1)∧wr .i64 ((↑(length (getD x1 (toNat x2) ([]:List Int))):Int)-1)<(↑(length (getD x1 (toNat x2) ([]:List Int))):Int)) (gd ((!bif ilt (wr .i64 (qan x0 x1 x2-0)) 0 then true else qb2 x0 x1 x2)=true→(!bif ilt (wr .i64 (qan x0 x1 x2-0)) 0 then true else qb2 x0 x1 x2)=true) (gd ((!bif ilt (wr .i64 (qan x0 x1 x2-0)) 0 then true else qb2 x0 x1 x2)=true→(!bif ilt (wr .i64 (qan x0 x1 x2-0)) 0 then true else qb2 x0 x1 x2)=true∧(!bif ilt (wr .i64 (qan x0 x1 x2-0)) 0 then true else qb2 x0 x1 x2)=true) (gd ((bif ilt (wr .i64 (qan x0 x1 x2-0)) 0 then true else qb2 x0 x1 x2)=false→(!bif ilt (wr .i64 (qan x0 x1 x2-0)) 0 then true else qb2 x0 x1 x2)=true) (some ((bif bif ilt (wr .i64 (qan x0 x1 x2-0)) 0 then true else qb2 x0 x1 x2 then true else q2j x0 x1 x2,()):Bool×Unit))))))))))))))))) else bif ilt (wr .i64 (x2-1)) (↑(length x0):Int) then gd (0≤wr .i64 (x2-1)∧wr .i64 (x2-1)<(↑(length x0):Int)) (gd ((!ilt (qau x0 x1 x2) 0)=true→(!ilt (qau x0 x1 x2) 0)=true) (gd ((!ilt (qau x0 x1 x2) 0)=true→(!ilt (qau x0 x1 x2) 0)=true∧(!ilt (qau x0 x1 x2) 0)=true∧0≤wr .i64 (x2-1)∧wr .i64 (x2-1)<(↑(length x1):Int)) (gd ((!ilt (qau x0 x1 x2) 0)=true→(!ilt (qau x0 x1 x2) 0)=true) (gd ((!ilt (qau x0 x1 x2) 0)=true→(!ilt (qau x0 x1 x2) 0)=true) (gd ((!ilt (qau x0 x1 x2) 0)=true→(!ilt (qau x0 x1 x2) 0)=true∧(!ilt (qau x0 x1 x2) 0)=true) (gd (ilt (qau x0 x1 x2) 0=false→(!ilt (qau x0 x1 x2) 0)=true) (gd ((!bif ilt (qau x0 x1 x2) 0 then true else ile (↑(length (getD x1 (toNat (wr .i64 (x2-1))) ([]:List Int))):Int) (qau x0 x1 x2))=true→qcy x0 x1 x2=true) (gd ((!bif ilt (qau x0 x1 x2) 0 then true else ile (↑(length (getD x1 (toNat (wr .i64 (x2-1))) ([]:List Int))):Int) (qau x0 x1 x2))=true→qcy x0 x1 x2=true∧qcy x0 x1 x2=true∧0≤wr .i64 (x2-1)∧wr .i64 (x2-1)<(↑(length x1):Int)) (gd ((!bif ilt (qau x0 x1 x2) 0 then true else ile (↑(length (getD x1 (toNat (wr .i64 (x2-1))) ([]:List Int))):Int) (qau x0 x1 x2))=true→qcy x0 x1 x2=true) (gd ((!bif ilt (qau x0 x1 x2) 0 then true else ile (↑(length (getD x1 (toNat (wr .i64 (x2-1))) ([]:List Int))):Int) (qau x0 x1 x2))=true→qcy x0 x1 x2=true∧qcy x0 x1 x2=true∧0≤qau x0 x1 x2∧qau x0 x1 x2<(↑(length (getD x1 (toNat (wr .i64 (x2-1))) ([]:List Int))):Int)) (gd ((!bif ilt (qau x0 x1 x2) 0 then true else ile (↑(length (getD x1 (toNat (wr .i64 (x2-1))) ([]:List Int))):Int) (qau x0 x1 x2))=true→qcy x0 x1 x2=true) (gd ((!bif ilt (qau x0 x1 x2) 0 then true else ile (↑(length (getD x1 (toNat (wr .i64 (x2-1))) ([]:List Int))):Int) (qau x0 x1 x2))=true→qcy x0 x1 x2=true∧qcy x0 x1 x2=true∧0≤wr .i64 ((↑(length (getD x1 (toNat x2) ([]:List Int))):Int)-1)∧wr .i64 ((↑(length (getD x1 (toNat x2) ([]:List Int))):Int)-1)<(↑(length (getD x1 (toNat x2) ([]:List Int))):Int)) (gd ((!bif ilt (qau x0 x1 x2) 0 then true else ile (↑(length (getD x1 (toNat (wr .i64 (x2-1))) ([]:List Int))):Int) (qau x0 x1 x2))=true→qcy x0 x1 x2=true) (gd ((!bif ilt (qau x0 x1 x2) 0 then true else ile (↑(length (getD x1 (toNat (wr .i64 (x2-1))) ([]:List Int))):Int) (qau x0 x1 x2))=true→qcy x0 x1 x2=true∧qcy x0 x1 x2=true) (gd ((bif ilt (qau x0 x1 x2) 0 then true else ile (↑(length (getD x1 (toNat (wr .i64 (x2-1))) ([]:List Int))):Int) (qau x0 x1 x2))=false→qcy x0 x1 x2=true) (some ((qzd x0 x1 x2,()):Bool×Unit))))))))))))))))) else gd ((!ilt (qai x1 x2) 0)=true→(!ilt (qai x1 x2) 0)=true) (gd ((!ilt (qai x1 x2) 0)=true→(!ilt (qai x1 x2) 0)=true∧(!ilt (qai x1 x2) 0)=true∧0≤wr .i64 (x2-1)∧wr .i64 (x2-1)<(↑(length x1):Int)) (gd ((!ilt (qai x1 x2) 0)=true→(!ilt (qai x1 x2) 0)=true) (gd ((!ilt (qai x1 x2) 0)=true→(!ilt (qai x1 x2) 0)=true) (gd ((!ilt (qai x1 x2) 0)=true→(!ilt (qai x1 x2) 0)=true∧(!ilt (qai x1 x2) 0)=true) (gd (ilt (qai x1 x2) 0=false→(!ilt (qai x1 x2) 0)=true) (gd ((!bif ilt (qai x1 x2) 0 then true else ile (↑(length (getD x1 (toNat (wr .i64 (x2-1))) ([]:List Int))):Int) (qai x1 x2))=true→(!bif ilt (qai x1 x2) 0 then true else ile (↑(length (getD x1 (toNat (wr .i64 (x2-1))) ([]:List Int))):Int) (qai x1 x2))=true) (gd ((!bif ilt (qai x1 x2) 0 then true else ile (↑(length (getD x1 (toNat (wr .i64 (x2-1))) ([]:List Int))):Int) (qai x1 x2))=true→(!bif ilt (qai x1 x2) 0 then true else ile (↑(length (getD x1 (toNat (wr .i64 (x2-1))) ([]:List Int))):Int) (qai x1 x2))=true∧(!bif ilt (qai x1 x2) 0 then true else ile (↑(length (getD x1 (toNat (wr .i64 (x2-1))) ([]:List Int))):Int) (qai x1 x2))=true∧0≤wr .i64 (x2-1)∧wr .i64 (x2-1)<(↑(length x1):Int)) (gd ((!bif ilt (qai x1 x2) 0 then true else ile (↑(length (getD x1 (toNat (wr .i64 (x2-1))) ([]:List Int))):Int) (qai x1 x2))=true→(!bif ilt (qai x1 x2) 0 then true else ile (↑(length (getD x1 (toNat (wr .i64 (x2-1))) ([]:List Int))):Int) (qai x1 x2))=true) (gd ((!bif ilt (qai x1 x2) 0 then true else ile (↑(length (getD x1 (toNat (wr .i64 (x2-1))) ([]:List Int))):Int) (qai x1 x2))=true→(!bif ilt (qai x1 x2) 0 then true else ile (↑(length (getD x1 (toNat (wr .i64 (x2-1))) ([]:List Int))):Int) (qai x1 x2))=true∧(!bif ilt (qai x1 x2) 0 then true else ile (↑(length (getD x1 (toNat (wr .i64 (x2-1))) ([]:List Int))):Int) (qai x1 x2))=true∧0≤qai x1 x2∧qai x1 x2<(↑(length (getD x1 (toNat (wr .i64 (x2-1))) ([]:List Int))):Int)) (gd ((!bif ilt (qai x1 x2) 0 then true else ile (↑(length (getD x1 (toNat (wr .i64 (x2-1))) ([]:List Int))):Int) (qai x1 x2))=true→(!bif ilt (qai x1 x2) 0 then true else ile (↑(length (getD x1 (toNat (wr .i64 (x2-1))) ([]:List Int))):Int) (qai x1 x2))=true) (gd ((!bif ilt (qai x1 x2) 0 then true else ile (↑(length (getD x1 (toNat (wr .i64 (x2-1))) ([]:List Int))):Int) (qai x1 x2))=true→(!bif ilt (qai x1 x2) 0 then true else ile (↑(length (getD x1 (toNat (wr .i64 (x2-1))) ([]:List Int))):Int) (qai x1 x2))=true∧(!bif ilt (qai x1 x2) 0 then true else ile (↑(length (getD x1 (toNat (wr .i64 (x2-1))) ([]:List Int))):Int) (qai x1 x2))=true∧0≤wr .i64 ((↑(length (getD x1 (toNat x2) ([]:List Int))):Int)-1)∧wr .i64 ((↑(length (getD x1 (toNat x2) ([]:List Int))):Int)-1)<(↑(length (getD x1 (toNat x2) ([]:List Int))):Int)) (gd ((!bif ilt (qai x1 x2) 0 then true else ile (↑(length (getD x1 (toNat (wr .i64 (x2-1))) ([]:List Int))):Int) (qai x1 x2))=true→(!bif ilt (qai x1 x2) 0 then true else ile (↑(length (getD x1 (toNat (wr .i64 (x2-1))) ([]:List Int))):Int) (qai x1 x2))=true) (gd ((!bif ilt (qai x1 x2) 0 then true else ile (↑(length (getD x1 (toNat (wr .i64 (x2-1))) ([]:List Int))):Int) (qai x1 x2))=true→(!bif ilt (qai x1 x2) 0 then true else ile (↑(length (getD x1 (toNat (wr .i64 (x2-1))) ([]:List Int))):Int) (qai x1 x2))=true∧(!bif ilt (qai x1 x2) 0 then true else ile (↑(length (getD x1 (toNat (wr .i64 (x2-1))) ([]:List Int))):Int) (qai x1 x2))=true) (gd ((bif ilt (qai x1 x2) 0 then true else ile (↑(length (getD x1 (toNat (wr .i64 (x2-1))) ([]:List Int))):Int) (qai x1 x2))=false→(!bif ilt (qai x1 x2) 0 then true else ile (↑(length (getD x1 (toNat (wr .i64 (x2-1))) ([]:List Int))):Int) (qai x1 x2))=true) (some ((qyp x1 x2,()):Bool×Unit))))))))))))))))))))))))
def q40:List LSh:=([]:List LSh)
def qlp (a:List Int) (Y begun:List (List Int)):Bool:=decide ((stX ((a,tabF begun,()):SkD)).2.1=0) && decide ((stX ((a,tabF begun,()):SkD)).1=Y)
def sumY (g:Int→Int):Nat→Int→Int
 | 0,_=>0
 | c+1,x=>g x+sumY g c (x+1)
def putX (begun:List (List Int)) (i:Nat) (x:Int):List (List Int):=begun.set i (begun.getD i []++[x])
def skF (a c:List Int) (Y:List (List Int)):Nat→List Int→List (List Int)→Nat→Int
 | 0,_,_,_=>0
 | n+1,left,begun,i =>
  if i=c.length then (if qlp a Y begun then 1 else 0)
  else if ((begun.getD i []).length:Int)=c.getD i 0-a.getD i 0 then skF a c Y n left begun (i+1)
  else sumY (fun x=>if left.getD (x-1).toNat 0=0 then 0 else if qmo a (putX begun i x) i then skF a c Y n (left.set (x-1).toNat (left.getD (x-1).toNat 0-1)) (putX begun i x) i else 0) 8 1
structure preSk (n:Nat) (a c:List Int) (Y:List (List Int)) (left:List Int) (begun:List (List Int)) (i:Int):Prop where
 oa:okLs a
 oc:okLs c
 ac:a.length≤c.length
 le:∀ q:Nat,a.getD q 0≤c.getD q 0
 len:begun.length=c.length
 ii:0≤i∧i≤(c.length:Int)
 row:∀ q:Nat,((begun.getD q []).length:Int)≤c.getD q 0-a.getD q 0
 lf:left.length=8∧∀ x∈left,0≤x∧x≤96
 mu:9*(c.length-i.toNat)+(8-(begun.getD i.toNat []).length)<n
def qmq (n:Nat):SCon:=mkS 58 [.v LI,.v LI,.v LLI,.v LI,.v LLI,.v I64] [] [.v I64] [] (fun (a c:List Int) (Y:List (List Int)) (left:List Int) (begun:List (List Int)) (i:Int)=>[preSk n a c Y left begun i∧skF a c Y n left begun i.toNat≤500000000]) (fun (a c:List Int) (Y:List (List Int)) (left:List Int) (begun:List (List Int)) (i:Int)=>(skF a c Y n left begun i.toNat,()))
def qne (x0:List Int) (x4:List (List Int)):Int:=(stX ((List.take (List.length x0) (List.drop 0 x0),List.take (List.length (tabF x4)) (List.drop 0 (tabF x4)),()):List Int×List (List Int)×Unit)).2.1
def q7s (x0:List Int) (x2 x4:List (List Int)):Bool:=eqL2 (stX ((List.take (List.length x0) (List.drop 0 x0),List.take (List.length (tabF x4)) (List.drop 0 (tabF x4)),()):List Int×List (List Int)×Unit)).1 x2
def qj2 (x3:List Int) (d7:Int×Int×Unit):Int:=wr .i64 (List.getD x3 (0+Int.toNat (wr .i64 (d7.2.1-1))) (0:Int)-1)
def qzf (x0:List Int) (x4:List (List Int)) (x5:Int) (d7:Int×Int×Unit):Bool:=qmo x0 (List.take (List.length (tabF x4)) (List.drop 0 (List.set (tabF x4) (0+Int.toNat x5) (List.take (List.length (List.getD (tabF x4) (0+Int.toNat x5) ([]:List Int))) (List.getD (tabF x4) (0+Int.toNat x5) ([]:List Int))++d7.2.1::([]:List Int))))) (Int.toNat x5)
def qxh (n:Nat) (x0 x1:List Int) (x2:List (List Int)) (x3:List Int) (x4:List (List Int)) (x5:Int) (d7:Int×Int×Unit):Int:=skF x0 x1 x2 n (List.take (List.length x3) (List.drop 0 (List.set x3 (0+Int.toNat (wr .i64 (d7.2.1-1))) (qj2 x3 d7)))) (List.take (List.length (tabF x4)) (List.drop 0 (List.set (tabF x4) (0+Int.toNat x5) (List.take (List.length (List.getD (tabF x4) (0+Int.toNat x5) ([]:List Int))) (List.getD (tabF x4) (0+Int.toNat x5) ([]:List Int))++d7.2.1::([]:List Int))))) (Int.toNat x5)
def qya (x3:List Int) (d7:Int×Int×Unit):Int:=wr .i64 (List.getD x3 (0+Int.toNat (wr .i64 (d7.2.1-1))) (0:Int)-1)
def zcl (x0:List Int) (x4:List (List Int)) (x5:Int) (d7:Int×Int×Unit):Bool:=qmo x0 (List.take (List.length (tabF x4)) (List.drop 0 (List.set (tabF x4) (0+Int.toNat x5) (List.take (List.length (List.getD (tabF x4) (0+Int.toNat x5) ([]:List Int))) (List.getD (tabF x4) (0+Int.toNat x5) ([]:List Int))++d7.2.1::([]:List Int))))) (Int.toNat x5)
def zcp (n:Nat) (x0 x1:List Int) (x2:List (List Int)) (x3:List Int) (x4:List (List Int)) (x5:Int) (d7:Int×Int×Unit):Int:=skF x0 x1 x2 n (List.take (List.length x3) (List.drop 0 (List.set x3 (0+Int.toNat (wr .i64 (d7.2.1-1))) (qya x3 d7)))) (List.take (List.length (tabF x4)) (List.drop 0 (List.set (tabF x4) (0+Int.toNat x5) (List.take (List.length (List.getD (tabF x4) (0+Int.toNat x5) ([]:List Int))) (List.getD (tabF x4) (0+Int.toNat x5) ([]:List Int))++d7.2.1::([]:List Int))))) (Int.toNat x5)
open List Int in
def g58 (n:Nat) (x0 x1:List Int) (x2:List (List Int)) (x3:List Int) (x4:List (List Int)) (x5:Int):Option (Int×Unit):=bif ieq x5 (↑(length x1):Int) then gd (length x0≤100000) (gd (small x4) (gd (0+length x0≤length x0) (gd (0+length (tabF x4)≤length (tabF x4)) (gd (okRs ((take (length x0) (drop 0 x0),take (length (tabF x4)) (drop 0 (tabF x4)),()):List Int×List (List Int)×Unit)) (gd (ieq (qne x0 x4) 0=true→ieq (qne x0 x4) 0=true∧ieq (qne x0 x4) 0=true∧small (stX ((take (length x0) (drop 0 x0),take (length (tabF x4)) (drop 0 (tabF x4)),()):List Int×List (List Int)×Unit)).1∧∀ (x7:List Int),List.Mem x7 (stX ((take (length x0) (drop 0 x0),take (length (tabF x4)) (drop 0 (tabF x4)),()):List Int×List (List Int)×Unit)).1→small x7) (gd (ieq (qne x0 x4) 0=true→ieq (qne x0 x4) 0=true) (bif bif ieq (qne x0 x4) 0 then q7s x0 x2 x4 else false then some ((1,()):Int×Unit) else some ((0,()):Int×Unit)))))))) else bif ilt x5 (↑(length x0):Int) then gd (0≤x5∧x5<(↑(length x0):Int)) (gd (0≤x5∧x5<(↑(length x4):Int)) (gd (0≤x5∧x5<(↑(length x1):Int)) (bif ieq (↑(length (getD x4 (toNat x5) ([]:List Int))):Int) (wr .i64 (getD x1 (toNat x5) 0-getD x0 (toNat x5) 0)) then gd (preSk n x0 x1 x2 x3 x4 (wr .i64 (x5+1))∧skF x0 x1 x2 n x3 x4 (toNat (wr .i64 (x5+1)))≤500000000) (some ((skF x0 x1 x2 n x3 x4 (toNat (wr .i64 (x5+1))),()):Int×Unit)) else qat (fun (d7:Int×Int×Unit)=>bif ile d7.2.1 8 then gd (0≤wr .i64 (d7.2.1-1)∧wr .i64 (d7.2.1-1)<(↑(length x3):Int)) (bif ieq (getD x3 (toNat (wr .i64 (d7.2.1-1))) 0) 0 then some (Lp.go ((d7.1,wr .i64 (d7.2.1+1),()):Int×Int×Unit)) else gd (small x4) (gd (0≤x5∧x5<(↑(length (tabF x4)):Int)) (gd (0+toNat x5<length (tabF x4)) (gd (0+toNat x5<length (tabF x4)) (gd (length (getD (tabF x4) (0+toNat x5) ([]:List Int))≤length (getD (tabF x4) (0+toNat x5) ([]:List Int))) (gd ((length (getD (tabF x4) (0+toNat x5) ([]:List Int))+1)*(8:Nat)≤1099511627776) (gd (0≤x5∧x5<(↑(length (tabF x4)):Int)) (gd (0+toNat x5<length (List.set (tabF x4) (0+toNat x5) (take (length (getD (tabF x4) (0+toNat x5) ([]:List Int))) (getD (tabF x4) (0+toNat x5) ([]:List Int))++d7.2.1::([]:List Int)))) (gd (0+toNat x5=0+toNat x5) (gd (0+toNat x5=0+toNat x5) (gd (length (getD (tabF x4) (0+toNat x5) ([]:List Int))+1=length (getD (List.set (tabF x4) (0+toNat x5) (take (length (getD (tabF x4) (0+toNat x5) ([]:List Int))) (getD (tabF x4) (0+toNat x5) ([]:List Int))++d7.2.1::([]:List Int))) (0+toNat x5) ([]:List Int))) (gd (length x3≤100000) (gd (0≤wr .i64 (d7.2.1-1)∧wr .i64 (d7.2.1-1)<(↑(length x3):Int)) (gd (0+toNat (wr .i64 (d7.2.1-1))<length x3) (gd (0≤wr .i64 (d7.2.1-1)∧wr .i64 (d7.2.1-1)<(↑(length x3):Int)) (gd (0+toNat (wr .i64 (d7.2.1-1))<length x3) (gd (0+length (tabF x4)≤length (List.set (tabF x4) (0+toNat x5) (take (length (getD (tabF x4) (0+toNat x5) ([]:List Int))) (getD (tabF x4) (0+toNat x5) ([]:List Int))++d7.2.1::([]:List Int)))) (gd (okLs x0∧okBg (take (length (tabF x4)) (drop 0 (List.set (tabF x4) (0+toNat x5) (take (length (getD (tabF x4) (0+toNat x5) ([]:List Int))) (getD (tabF x4) (0+toNat x5) ([]:List Int))++d7.2.1::([]:List Int)))))∧0≤x5∧x5<(↑(length (take (length (tabF x4)) (drop 0 (List.set (tabF x4) (0+toNat x5) (take (length (getD (tabF x4) (0+toNat x5) ([]:List Int))) (getD (tabF x4) (0+toNat x5) ([]:List Int))++d7.2.1::([]:List Int)))))):Int)∧0<length (getD (take (length (tabF x4)) (drop 0 (List.set (tabF x4) (0+toNat x5) (take (length (getD (tabF x4) (0+toNat x5) ([]:List Int))) (getD (tabF x4) (0+toNat x5) ([]:List Int))++d7.2.1::([]:List Int))))) (toNat x5) ([]:List Int))) (bif qzf x0 x4 x5 d7 then gd (0+length x3≤length (List.set x3 (0+toNat (wr .i64 (d7.2.1-1))) (qj2 x3 d7))) (gd (0+length (tabF x4)≤length (List.set (tabF x4) (0+toNat x5) (take (length (getD (tabF x4) (0+toNat x5) ([]:List Int))) (getD (tabF x4) (0+toNat x5) ([]:List Int))++d7.2.1::([]:List Int)))) (gd (preSk n x0 x1 x2 (take (length x3) (drop 0 (List.set x3 (0+toNat (wr .i64 (d7.2.1-1))) (qj2 x3 d7)))) (take (length (tabF x4)) (drop 0 (List.set (tabF x4) (0+toNat x5) (take (length (getD (tabF x4) (0+toNat x5) ([]:List Int))) (getD (tabF x4) (0+toNat x5) ([]:List Int))++d7.2.1::([]:List Int))))) x5∧skF x0 x1 x2 n (take (length x3) (drop 0 (List.set x3 (0+toNat (wr .i64 (d7.2.1-1))) (qj2 x3 d7)))) (take (length (tabF x4)) (drop 0 (List.set (tabF x4) (0+toNat x5) (take (length (getD (tabF x4) (0+toNat x5) ([]:List Int))) (getD (tabF x4) (0+toNat x5) ([]:List Int))++d7.2.1::([]:List Int))))) (toNat x5)≤500000000) (some (Lp.go ((wr .i64 (d7.1+qxh n x0 x1 x2 x3 x4 x5 d7),wr .i64 (d7.2.1+1),()):Int×Int×Unit))))) else some (Lp.go ((d7.1,wr .i64 (d7.2.1+1),()):Int×Int×Unit))))))))))))))))))))) else some (Lp.out ((d7.1,()):Int×Unit))) ((0,1,()):Int×Int×Unit)))) else gd (0≤x5∧x5<(↑(length x4):Int)) (gd (0≤x5∧x5<(↑(length x1):Int)) (bif ieq (↑(length (getD x4 (toNat x5) ([]:List Int))):Int) (wr .i64 (getD x1 (toNat x5) (0:Int)-0)) then gd (preSk n x0 x1 x2 x3 x4 (wr .i64 (x5+1))∧skF x0 x1 x2 n x3 x4 (toNat (wr .i64 (x5+1)))≤500000000) (some ((skF x0 x1 x2 n x3 x4 (toNat (wr .i64 (x5+1))),()):Int×Unit)) else qat (fun (d7:Int×Int×Unit)=>bif ile d7.2.1 8 then gd (0≤wr .i64 (d7.2.1-1)∧wr .i64 (d7.2.1-1)<(↑(length x3):Int)) (bif ieq (getD x3 (toNat (wr .i64 (d7.2.1-1))) 0) 0 then some (Lp.go ((d7.1,wr .i64 (d7.2.1+1),()):Int×Int×Unit)) else gd (small x4) (gd (0≤x5∧x5<(↑(length (tabF x4)):Int)) (gd (0+toNat x5<length (tabF x4)) (gd (0+toNat x5<length (tabF x4)) (gd (length (getD (tabF x4) (0+toNat x5) ([]:List Int))≤length (getD (tabF x4) (0+toNat x5) ([]:List Int))) (gd ((length (getD (tabF x4) (0+toNat x5) ([]:List Int))+1)*(8:Nat)≤1099511627776) (gd (0≤x5∧x5<(↑(length (tabF x4)):Int)) (gd (0+toNat x5<length (List.set (tabF x4) (0+toNat x5) (take (length (getD (tabF x4) (0+toNat x5) ([]:List Int))) (getD (tabF x4) (0+toNat x5) ([]:List Int))++d7.2.1::([]:List Int)))) (gd (0+toNat x5=0+toNat x5) (gd (0+toNat x5=0+toNat x5) (gd (length (getD (tabF x4) (0+toNat x5) ([]:List Int))+1=length (getD (List.set (tabF x4) (0+toNat x5) (take (length (getD (tabF x4) (0+toNat x5) ([]:List Int))) (getD (tabF x4) (0+toNat x5) ([]:List Int))++d7.2.1::([]:List Int))) (0+toNat x5) ([]:List Int))) (gd (length x3≤100000) (gd (0≤wr .i64 (d7.2.1-1)∧wr .i64 (d7.2.1-1)<(↑(length x3):Int)) (gd (0+toNat (wr .i64 (d7.2.1-1))<length x3) (gd (0≤wr .i64 (d7.2.1-1)∧wr .i64 (d7.2.1-1)<(↑(length x3):Int)) (gd (0+toNat (wr .i64 (d7.2.1-1))<length x3) (gd (0+length (tabF x4)≤length (List.set (tabF x4) (0+toNat x5) (take (length (getD (tabF x4) (0+toNat x5) ([]:List Int))) (getD (tabF x4) (0+toNat x5) ([]:List Int))++d7.2.1::([]:List Int)))) (gd (okLs x0∧okBg (take (length (tabF x4)) (drop 0 (List.set (tabF x4) (0+toNat x5) (take (length (getD (tabF x4) (0+toNat x5) ([]:List Int))) (getD (tabF x4) (0+toNat x5) ([]:List Int))++d7.2.1::([]:List Int)))))∧0≤x5∧x5<(↑(length (take (length (tabF x4)) (drop 0 (List.set (tabF x4) (0+toNat x5) (take (length (getD (tabF x4) (0+toNat x5) ([]:List Int))) (getD (tabF x4) (0+toNat x5) ([]:List Int))++d7.2.1::([]:List Int)))))):Int)∧0<length (getD (take (length (tabF x4)) (drop 0 (List.set (tabF x4) (0+toNat x5) (take (length (getD (tabF x4) (0+toNat x5) ([]:List Int))) (getD (tabF x4) (0+toNat x5) ([]:List Int))++d7.2.1::([]:List Int))))) (toNat x5) ([]:List Int))) (bif zcl x0 x4 x5 d7 then gd (0+length x3≤length (List.set x3 (0+toNat (wr .i64 (d7.2.1-1))) (qya x3 d7))) (gd (0+length (tabF x4)≤length (List.set (tabF x4) (0+toNat x5) (take (length (getD (tabF x4) (0+toNat x5) ([]:List Int))) (getD (tabF x4) (0+toNat x5) ([]:List Int))++d7.2.1::([]:List Int)))) (gd (preSk n x0 x1 x2 (take (length x3) (drop 0 (List.set x3 (0+toNat (wr .i64 (d7.2.1-1))) (qya x3 d7)))) (take (length (tabF x4)) (drop 0 (List.set (tabF x4) (0+toNat x5) (take (length (getD (tabF x4) (0+toNat x5) ([]:List Int))) (getD (tabF x4) (0+toNat x5) ([]:List Int))++d7.2.1::([]:List Int))))) x5∧skF x0 x1 x2 n (take (length x3) (drop 0 (List.set x3 (0+toNat (wr .i64 (d7.2.1-1))) (qya x3 d7)))) (take (length (tabF x4)) (drop 0 (List.set (tabF x4) (0+toNat x5) (take (length (getD (tabF x4) (0+toNat x5) ([]:List Int))) (getD (tabF x4) (0+toNat x5) ([]:List Int))++d7.2.1::([]:List Int))))) (toNat x5)≤500000000) (some (Lp.go ((wr .i64 (d7.1+zcp n x0 x1 x2 x3 x4 x5 d7),wr .i64 (d7.2.1+1),()):Int×Int×Unit))))) else some (Lp.go ((d7.1,wr .i64 (d7.2.1+1),()):Int×Int×Unit))))))))))))))))))))) else some (Lp.out ((d7.1,()):Int×Unit))) ((0,1,()):Int×Int×Unit)))
def q7w:List LSh:=LSh.mk (((17,TV.v (Ty.int .i64)):Nat×TV)::((18,TV.v (Ty.int .i64)):Nat×TV)::([]:List (Nat×TV))) ([]:List TB)::([]:List LSh)
theorem q97:qmj.goal Try.prog (spS [qga] []) q3e [] lm30:=by
 have e:(∀ (l:List Int),g20t l=some (l.take 12,()))=qmj.goal Try.prog (spS [qga] []) q3e [] lm30:=by kernel_rfl
 rw [← e];intro l;unfold g20t;have h:(imin (l.length:Int) 12).toNat=min l.length 12:=by unfold imin;split<;>omega
 rw [h,qab (by unfold imin;split<;>omega),qab (by simp;omega),qab rfl]
 have:l.take (min l.length 12)=l.take 12:=by
  rcases Nat.le_total l.length 12 with h | h
  ·rw [Nat.min_eq_left h,wbl,wal h]
  ·rw [Nat.min_eq_right h]
 rw [this]
theorem zb5:qmj.Ok Try.prog:=SCon.of_goal qb4 okN (okS q1u okS0) qmj q97
theorem q9d:qqz.goal Try.prog (spS [qmj] []) q4a [900000,18] lm30:=by
 have e:(∀ (t:List (List Int)),small t→g32s t=some (tabF t,()))=qqz.goal Try.prog (spS [qmj] []) q4a [900000,18] lm30:=by kernel_rfl
 rw [← e];intro t hs;unfold small at hs;unfold g32s;rw [qab rfl];refine qd0 (fun (i:Nat)=>(((i:Int),tabF (t.take i),()):Int×List (List Int)×Unit)) t.length _ (fun i hi=>?_) ?_
 ·have hl:=qv5 (t:=t.take i);have hw:wr .i64 ((i:Int)+1)=((i+1:Nat):Int):=qam (by omega)
  simp only [qak.2 (show (i:Int)<(t.length:Int) by omega),wbs,wad,wbl,hw]
  rw [qab ⟨by omega,by omega⟩]
  by_cases h12:i<12
  ·rw [qfs (qak.2 (by omega)),qac,qab (wae _),qab (by omega),qab (by simp)]
   have:tabF (t.take (i+1))=tabF (t.take i)++[List.take 12 (t.getD i [])]:=by
    unfold tabF;have a:(t.take i++[t.getD i []]).length≤12:=by simp;omega
    have b:(t.take i).length≤12:=by simp;omega
    rw [qha hi [],wal a,wal b,wbx];rfl
   rw [this]
  ·rw [qf6 (qag.2 (by omega)),qac]
   have:tabF (t.take (i+1))=tabF (t.take i):=by
    unfold tabF;rw [List.take_take,List.take_take,Nat.min_eq_left (by omega),Nat.min_eq_left (by omega)]
   rw [this]
 ·simp only [qag.2 (waw _),wbr,wbl,qac]
theorem zdv:qqz.Ok Try.prog:=SCon.of_goal qb4 okN (okS zb5 okS0) qqz q9d
theorem q8x:qq4.goal Try.prog (spOf []) q40 [] lm30:=by
 have e:(∀ (a:List Int) (rows:List (List Int)) (i:Int),(okLs a∧okBg rows∧0≤i∧i<(rows.length:Int)∧0<(rows.getD i.toNat []).length)→g101 a rows i=some (qmo a rows i.toNat,()))=qq4.goal Try.prog (spOf []) q40 [] lm30:=by kernel_rfl
 rw [← e];rintro a rows i ⟨ha,hr,h0,hi,hp⟩;obtain ⟨k,rfl⟩:∃ k:Nat,i=(k:Int):=⟨i.toNat,by omega⟩
 rw [wad] at hp ⊢;have hk:k<rows.length:=by omega
 have hlen:∀ q,(rows.getD q []).length≤12:=fun q=>by
  rw [waa]
  cases hq:rows[q]? with
  | none=>exact Nat.zero_le _
  | some r=>exact hr.2 r (wb8 hq)
 have hav:∀ q,0≤a.getD q 0∧a.getD q 0≤8:=fun q=>by
  rw [waa]
  cases hq:a[q]? with
  | none=>exact ⟨waw 0,by decide⟩
  | some r=>exact ha.2 r (wb8 hq)
 have h8:=hr.1;have hL:=hlen k;have hL1:=hlen (k-1);have hk1:=hav k;have hk2:=hav (k-1);obtain ⟨m,hm⟩:∃ m:Nat,(rows.getD k []).length=m+1:=⟨(rows.getD k []).length-1,by omega⟩
 have w1:wr .i64 (((rows.getD k []).length:Int)-1)=(m:Int):=(qam (by omega)).trans (by omega)
 have w2:wr .i64 ((m:Int)-1)=(m:Int)-1:=qam (by omega)
 have w3:wr .i64 ((k:Int)-1)=(k:Int)-1:=qam (by omega)
 have t2:((m:Int)-1).toNat=m-1:=by omega
 have t3:((k:Int)-1).toNat=k-1:=by omega
 have w4:wr .i64 (a.getD k 0+(m:Int))=a.getD k 0+(m:Int):=qam (by omega)
 have w5:wr .i64 (a.getD k 0+(m:Int)-a.getD (k-1) 0)=a.getD k 0+(m:Int)-a.getD (k-1) 0:=qam (by omega)
 have w6:wr .i64 (a.getD k 0+(m:Int)-0)=a.getD k 0+(m:Int)-0:=qam (by omega)
 have w7:wr .i64 (0+(m:Int))=0+(m:Int):=qam (by omega)
 have w8:wr .i64 (0+(m:Int)-a.getD (k-1) 0)=0+(m:Int)-a.getD (k-1) 0:=qam (by omega)
 have w9:wr .i64 (0+(m:Int)-0)=0+(m:Int)-0:=qam (by omega)
 have hF:qmo a rows k=((!(bif ilt 0 (m:Int) then ilt ((rows.getD k []).getD m 0) ((rows.getD k []).getD (m-1) 0) else false)) && (bif ieq (k:Int) 0 then true else (bif (bif ilt (a.getD k 0+(m:Int)-a.getD (k-1) 0) 0 then true else ile ((rows.getD (k-1) []).length:Int) (a.getD k 0+(m:Int)-a.getD (k-1) 0)) then true else ilt ((rows.getD (k-1) []).getD (a.getD k 0+(m:Int)-a.getD (k-1) 0).toNat 0) ((rows.getD k []).getD m 0)))):=by
  unfold qmo;simp only [hm,wcc,show m+1-2=m-1 by omega,zdx,zdm,q6b]
  rw [Bool.eq_iff_iff];simp [Bool.cond_eq_ite]
 rw [hF];simp only [g101,q15,q21,qan,q35,qbz,q4b,q2m,qb2,q4l,q2j,qau,qcy,qxt,qzd,qai,qxr,qyp,wad,w1,w2,w3,t2,t3,w4,w5,w6,w7,w8,w9];have hki:((0:Int)≤(k:Int)∧(k:Int)<(rows.length:Int))=True:=eq_true ⟨by omega,by omega⟩
 have hm1:((0:Int)≤(m:Int)∧(m:Int)<((rows.getD k []).length:Int))=True:=eq_true ⟨by omega,by omega⟩
 have hm2:ilt 0 (m:Int)=true→((0:Int)≤(m:Int)-1∧(m:Int)-1<((rows.getD k []).length:Int))=True:=fun h=>by have:=qak.1 h;exact eq_true ⟨by omega,by omega⟩
 have hk3:ieq (k:Int) 0=false→((0:Int)≤(k:Int)-1∧(k:Int)-1<(rows.length:Int))=True:=fun h=>by
  have:(k:Int)≠0:=qa5.1 h;exact eq_true ⟨by omega,by omega⟩
 have hcc:∀ c:Int,ilt c 0=false→ile ((rows.getD (k-1) []).length:Int) c=false→((0:Int)≤c∧c<((rows.getD (k-1) []).length:Int))=True:=fun c h1 h2=>by
  have h1:=qag.1 h1;have h2:=qdn.1 h2;exact eq_true ⟨h1,h2⟩
 generalize hU:ilt 0 (m:Int)=u at *;generalize hV:ilt ((rows.getD k []).getD m 0) ((rows.getD k []).getD (m-1) 0)=v at *;generalize hW:ieq (k:Int) 0=w at *;simp only [hki,hm1]
 by_cases hka:k<a.length
 ·have e1:ilt (k:Int) (a.length:Int)=true:=qak.2 (by omega)
  have e2:ilt ((k:Int)-1) (a.length:Int)=true:=qak.2 (by omega)
  have e3:((0:Int)≤(k:Int)∧(k:Int)<(a.length:Int))=True:=eq_true ⟨by omega,by omega⟩
  have e4:w=false→((0:Int)≤(k:Int)-1∧(k:Int)-1<(a.length:Int))=True:=fun h=>by
   rw [h] at hW;have:(k:Int)≠0:=qa5.1 hW;exact eq_true ⟨by omega,by omega⟩
  simp only [e1,e2,e3];have hcc:=hcc (a.getD k 0+(m:Int)-a.getD (k-1) 0);generalize hX:ilt (a.getD k 0+(m:Int)-a.getD (k-1) 0) 0=x at *;generalize hY:ile ((rows.getD (k-1) []).length:Int) (a.getD k 0+(m:Int)-a.getD (k-1) 0)=y at *;generalize hZ:ilt ((rows.getD (k-1) []).getD (a.getD k 0+(m:Int)-a.getD (k-1) 0).toNat 0) ((rows.getD k []).getD m 0)=z at *
  cases u with
  | true =>
   simp only [hm2 rfl,wbs,wbr,qac,wbp,wbb,wbo,and_self,and_true,true_and,wbi,wbh,wbe,wbq,wbz,wb0,wb1,wb2,wb3,imp_self]
   cases v with
   | true=>simp only [wbs,wbr,qac,wbp,wbb,wbo,and_self,and_true,true_and,wbi,wbh,wbe,wbq,wbz,wb0,wb1,wb2,wb3,imp_self]
   | false =>
    simp only [wbs,wbr,qac,wbp,wbb,wbo,and_self,and_true,true_and,wbi,wbh,wbe,wbq,wbz,wb0,wb1,wb2,wb3,imp_self]
    cases w with
    | true=>simp only [wbs,wbr,qac,wbp,wbb,wbo,and_self,and_true,true_and,wbi,wbh,wbe,wbq,wbz,wb0,wb1,wb2,wb3,imp_self]
    | false =>
     simp only [hk3 rfl,e4 rfl,wbs,wbr,qac,wbp,wbb,wbo,and_self,and_true,true_and,wbi,wbh,wbe,wbq,wbz,wb0,wb1,wb2,wb3,imp_self]
     cases x with
     | true=>simp only [wbs,wbr,qac,wbp,wbb,wbo,and_self,and_true,true_and,wbi,wbh,wbe,wbq,wbz,wb0,wb1,wb2,wb3,imp_self]
     | false =>
      simp only [wbs,wbr,qac,wbp,wbb,wbo,and_self,and_true,true_and,wbi,wbh,wbe,wbq,wbz,wb0,wb1,wb2,wb3,imp_self]
      cases y with
      | true=>simp only [wbs,wbr,qac,wbp,wbb,wbo,and_self,and_true,true_and,wbi,wbh,wbe,wbq,wbz,wb0,wb1,wb2,wb3,imp_self]
      | false =>
       simp only [hcc rfl rfl,wbs,wbr,qac,wbp,wbb,wbo,and_self,and_true,true_and,wbi,wbh,wbe,wbq,wbz,wb0,wb1,wb2,wb3,imp_self]
  | false =>
   simp only [wbs,wbr,qac,wbp,wbb,wbo,and_self,and_true,true_and,wbi,wbh,wbe,wbq,wbz,wb0,wb1,wb2,wb3,imp_self]
   cases w with
   | true=>simp only [wbs,wbr,qac,wbp,wbb,wbo,and_self,and_true,true_and,wbi,wbh,wbe,wbq,wbz,wb0,wb1,wb2,wb3,imp_self]
   | false =>
    simp only [hk3 rfl,e4 rfl,wbs,wbr,qac,wbp,wbb,wbo,and_self,and_true,true_and,wbi,wbh,wbe,wbq,wbz,wb0,wb1,wb2,wb3,imp_self]
    cases x with
    | true=>simp only [wbs,wbr,qac,wbp,wbb,wbo,and_self,and_true,true_and,wbi,wbh,wbe,wbq,wbz,wb0,wb1,wb2,wb3,imp_self]
    | false =>
     simp only [wbs,wbr,qac,wbp,wbb,wbo,and_self,and_true,true_and,wbi,wbh,wbe,wbq,wbz,wb0,wb1,wb2,wb3,imp_self]
     cases y with
     | true=>simp only [wbs,wbr,qac,wbp,wbb,wbo,and_self,and_true,true_and,wbi,wbh,wbe,wbq,wbz,wb0,wb1,wb2,wb3,imp_self]
     | false =>
      simp only [hcc rfl rfl,wbs,wbr,qac,wbp,wbb,wbo,and_self,and_true,true_and,wbi,wbh,wbe,wbq,wbz,wb0,wb1,wb2,wb3,imp_self]
 ·have e1:ilt (k:Int) (a.length:Int)=false:=qag.2 (by omega)
  have z1:a.getD k 0=0:=by rw [waa,wac (by omega)];rfl
  rw [z1]
  by_cases hkb:(k:Int)-1<(a.length:Int)
  ·have e2:ilt ((k:Int)-1) (a.length:Int)=true:=qak.2 hkb;have e4:w=false→((0:Int)≤(k:Int)-1∧(k:Int)-1<(a.length:Int))=True:=fun h=>by
    rw [h] at hW;have:(k:Int)≠0:=qa5.1 hW;exact eq_true ⟨by omega,hkb⟩
   simp only [e1,e2];have hcc:=hcc (0+(m:Int)-a.getD (k-1) 0);generalize hX:ilt (0+(m:Int)-a.getD (k-1) 0) 0=x at *;generalize hY:ile ((rows.getD (k-1) []).length:Int) (0+(m:Int)-a.getD (k-1) 0)=y at *;generalize hZ:ilt ((rows.getD (k-1) []).getD (0+(m:Int)-a.getD (k-1) 0).toNat 0) ((rows.getD k []).getD m 0)=z at *
   cases u with
   | true =>
    simp only [hm2 rfl,wbs,wbr,qac,wbp,wbb,wbo,and_self,and_true,true_and,wbi,wbh,wbe,wbq,wbz,wb0,wb1,wb2,wb3,imp_self]
    cases v with
    | true=>simp only [wbs,wbr,qac,wbp,wbb,wbo,and_self,and_true,true_and,wbi,wbh,wbe,wbq,wbz,wb0,wb1,wb2,wb3,imp_self]
    | false =>
     simp only [wbs,wbr,qac,wbp,wbb,wbo,and_self,and_true,true_and,wbi,wbh,wbe,wbq,wbz,wb0,wb1,wb2,wb3,imp_self]
     cases w with
     | true=>simp only [wbs,wbr,qac,wbp,wbb,wbo,and_self,and_true,true_and,wbi,wbh,wbe,wbq,wbz,wb0,wb1,wb2,wb3,imp_self]
     | false =>
      simp only [hk3 rfl,e4 rfl,wbs,wbr,qac,wbp,wbb,wbo,and_self,and_true,true_and,wbi,wbh,wbe,wbq,wbz,wb0,wb1,wb2,wb3,imp_self]
      cases x with
      | true=>simp only [wbs,wbr,qac,wbp,wbb,wbo,and_self,and_true,true_and,wbi,wbh,wbe,wbq,wbz,wb0,wb1,wb2,wb3,imp_self]
      | false =>
       simp only [wbs,wbr,qac,wbp,wbb,wbo,and_self,and_true,true_and,wbi,wbh,wbe,wbq,wbz,wb0,wb1,wb2,wb3,imp_self]
       cases y with
       | true=>simp only [wbs,wbr,qac,wbp,wbb,wbo,and_self,and_true,true_and,wbi,wbh,wbe,wbq,wbz,wb0,wb1,wb2,wb3,imp_self]
       | false =>
        simp only [hcc rfl rfl,wbs,wbr,qac,wbp,wbb,wbo,and_self,and_true,true_and,wbi,wbh,wbe,wbq,wbz,wb0,wb1,wb2,wb3,imp_self]
   | false =>
    simp only [wbs,wbr,qac,wbp,wbb,wbo,and_self,and_true,true_and,wbi,wbh,wbe,wbq,wbz,wb0,wb1,wb2,wb3,imp_self]
    cases w with
    | true=>simp only [wbs,wbr,qac,wbp,wbb,wbo,and_self,and_true,true_and,wbi,wbh,wbe,wbq,wbz,wb0,wb1,wb2,wb3,imp_self]
    | false =>
     simp only [hk3 rfl,e4 rfl,wbs,wbr,qac,wbp,wbb,wbo,and_self,and_true,true_and,wbi,wbh,wbe,wbq,wbz,wb0,wb1,wb2,wb3,imp_self]
     cases x with
     | true=>simp only [wbs,wbr,qac,wbp,wbb,wbo,and_self,and_true,true_and,wbi,wbh,wbe,wbq,wbz,wb0,wb1,wb2,wb3,imp_self]
     | false =>
      simp only [wbs,wbr,qac,wbp,wbb,wbo,and_self,and_true,true_and,wbi,wbh,wbe,wbq,wbz,wb0,wb1,wb2,wb3,imp_self]
      cases y with
      | true=>simp only [wbs,wbr,qac,wbp,wbb,wbo,and_self,and_true,true_and,wbi,wbh,wbe,wbq,wbz,wb0,wb1,wb2,wb3,imp_self]
      | false =>
       simp only [hcc rfl rfl,wbs,wbr,qac,wbp,wbb,wbo,and_self,and_true,true_and,wbi,wbh,wbe,wbq,wbz,wb0,wb1,wb2,wb3,imp_self]
  ·have e2:ilt ((k:Int)-1) (a.length:Int)=false:=qag.2 (by omega)
   have z2:a.getD (k-1) 0=0:=by rw [waa,wac (by omega)];rfl
   rw [z2];simp only [e1,e2];have hcc:=hcc (0+(m:Int)-0);generalize hX:ilt (0+(m:Int)-0) 0=x at *;generalize hY:ile ((rows.getD (k-1) []).length:Int) (0+(m:Int)-0)=y at *;generalize hZ:ilt ((rows.getD (k-1) []).getD (0+(m:Int)-0).toNat 0) ((rows.getD k []).getD m 0)=z at *
   cases u with
   | true =>
    simp only [hm2 rfl,wbs,wbr,qac,wbp,wbb,wbo,and_self,and_true,true_and,wbi,wbh,wbe,wbq,wbz,wb0,wb1,wb2,wb3,imp_self]
    cases v with
    | true=>simp only [wbs,wbr,qac,wbp,wbb,wbo,and_self,and_true,true_and,wbi,wbh,wbe,wbq,wbz,wb0,wb1,wb2,wb3,imp_self]
    | false =>
     simp only [wbs,wbr,qac,wbp,wbb,wbo,and_self,and_true,true_and,wbi,wbh,wbe,wbq,wbz,wb0,wb1,wb2,wb3,imp_self]
     cases w with
     | true=>simp only [wbs,wbr,qac,wbp,wbb,wbo,and_self,and_true,true_and,wbi,wbh,wbe,wbq,wbz,wb0,wb1,wb2,wb3,imp_self]
     | false =>
      simp only [hk3 rfl,wbs,wbr,qac,wbp,wbb,wbo,and_self,and_true,true_and,wbi,wbh,wbe,wbq,wbz,wb0,wb1,wb2,wb3,imp_self]
      cases x with
      | true=>simp only [wbs,wbr,qac,wbp,wbb,wbo,and_self,and_true,true_and,wbi,wbh,wbe,wbq,wbz,wb0,wb1,wb2,wb3,imp_self]
      | false =>
       simp only [wbs,wbr,qac,wbp,wbb,wbo,and_self,and_true,true_and,wbi,wbh,wbe,wbq,wbz,wb0,wb1,wb2,wb3,imp_self]
       cases y with
       | true=>simp only [wbs,wbr,qac,wbp,wbb,wbo,and_self,and_true,true_and,wbi,wbh,wbe,wbq,wbz,wb0,wb1,wb2,wb3,imp_self]
       | false =>
        simp only [hcc rfl rfl,wbs,wbr,qac,wbp,wbb,wbo,and_self,and_true,true_and,wbi,wbh,wbe,wbq,wbz,wb0,wb1,wb2,wb3,imp_self]
   | false =>
    simp only [wbs,wbr,qac,wbp,wbb,wbo,and_self,and_true,true_and,wbi,wbh,wbe,wbq,wbz,wb0,wb1,wb2,wb3,imp_self]
    cases w with
    | true=>simp only [wbs,wbr,qac,wbp,wbb,wbo,and_self,and_true,true_and,wbi,wbh,wbe,wbq,wbz,wb0,wb1,wb2,wb3,imp_self]
    | false =>
     simp only [hk3 rfl,wbs,wbr,qac,wbp,wbb,wbo,and_self,and_true,true_and,wbi,wbh,wbe,wbq,wbz,wb0,wb1,wb2,wb3,imp_self]
     cases x with
     | true=>simp only [wbs,wbr,qac,wbp,wbb,wbo,and_self,and_true,true_and,wbi,wbh,wbe,wbq,wbz,wb0,wb1,wb2,wb3,imp_self]
     | false =>
      simp only [wbs,wbr,qac,wbp,wbb,wbo,and_self,and_true,true_and,wbi,wbh,wbe,wbq,wbz,wb0,wb1,wb2,wb3,imp_self]
      cases y with
      | true=>simp only [wbs,wbr,qac,wbp,wbb,wbo,and_self,and_true,true_and,wbi,wbh,wbe,wbq,wbz,wb0,wb1,wb2,wb3,imp_self]
      | false =>
       simp only [hcc rfl rfl,wbs,wbr,qac,wbp,wbb,wbo,and_self,and_true,true_and,wbi,wbh,wbe,wbq,wbz,wb0,wb1,wb2,wb3,imp_self]
theorem zd2:qq4.Ok Try.prog:=Con.of_goal qb4 okN qq4 q8x
open List Int in
def st58 (n:Nat) (x0 x1:List Int) (x2:List (List Int)) (x3:List Int) (x4:List (List Int)) (x5:Int):Int×Int×Unit→Option (Lp (Int×Int×Unit) (Int×Unit)):=(fun (d7:Int×Int×Unit)=>bif ile d7.2.1 8 then gd (0≤wr .i64 (d7.2.1-1)∧wr .i64 (d7.2.1-1)<(↑(length x3):Int)) (bif ieq (getD x3 (toNat (wr .i64 (d7.2.1-1))) 0) 0 then some (Lp.go ((d7.1,wr .i64 (d7.2.1+1),()):Int×Int×Unit)) else gd (small x4) (gd (0≤x5∧x5<(↑(length (tabF x4)):Int)) (gd (0+toNat x5<length (tabF x4)) (gd (0+toNat x5<length (tabF x4)) (gd (length (getD (tabF x4) (0+toNat x5) ([]:List Int))≤length (getD (tabF x4) (0+toNat x5) ([]:List Int))) (gd ((length (getD (tabF x4) (0+toNat x5) ([]:List Int))+1)*(8:Nat)≤1099511627776) (gd (0≤x5∧x5<(↑(length (tabF x4)):Int)) (gd (0+toNat x5<length (List.set (tabF x4) (0+toNat x5) (take (length (getD (tabF x4) (0+toNat x5) ([]:List Int))) (getD (tabF x4) (0+toNat x5) ([]:List Int))++d7.2.1::([]:List Int)))) (gd (0+toNat x5=0+toNat x5) (gd (0+toNat x5=0+toNat x5) (gd (length (getD (tabF x4) (0+toNat x5) ([]:List Int))+1=length (getD (List.set (tabF x4) (0+toNat x5) (take (length (getD (tabF x4) (0+toNat x5) ([]:List Int))) (getD (tabF x4) (0+toNat x5) ([]:List Int))++d7.2.1::([]:List Int))) (0+toNat x5) ([]:List Int))) (gd (length x3≤100000) (gd (0≤wr .i64 (d7.2.1-1)∧wr .i64 (d7.2.1-1)<(↑(length x3):Int)) (gd (0+toNat (wr .i64 (d7.2.1-1))<length x3) (gd (0≤wr .i64 (d7.2.1-1)∧wr .i64 (d7.2.1-1)<(↑(length x3):Int)) (gd (0+toNat (wr .i64 (d7.2.1-1))<length x3) (gd (0+length (tabF x4)≤length (List.set (tabF x4) (0+toNat x5) (take (length (getD (tabF x4) (0+toNat x5) ([]:List Int))) (getD (tabF x4) (0+toNat x5) ([]:List Int))++d7.2.1::([]:List Int)))) (gd (okLs x0∧okBg (take (length (tabF x4)) (drop 0 (List.set (tabF x4) (0+toNat x5) (take (length (getD (tabF x4) (0+toNat x5) ([]:List Int))) (getD (tabF x4) (0+toNat x5) ([]:List Int))++d7.2.1::([]:List Int)))))∧0≤x5∧x5<(↑(length (take (length (tabF x4)) (drop 0 (List.set (tabF x4) (0+toNat x5) (take (length (getD (tabF x4) (0+toNat x5) ([]:List Int))) (getD (tabF x4) (0+toNat x5) ([]:List Int))++d7.2.1::([]:List Int)))))):Int)∧0<length (getD (take (length (tabF x4)) (drop 0 (List.set (tabF x4) (0+toNat x5) (take (length (getD (tabF x4) (0+toNat x5) ([]:List Int))) (getD (tabF x4) (0+toNat x5) ([]:List Int))++d7.2.1::([]:List Int))))) (toNat x5) ([]:List Int))) (bif qzf x0 x4 x5 d7 then gd (0+length x3≤length (List.set x3 (0+toNat (wr .i64 (d7.2.1-1))) (qj2 x3 d7))) (gd (0+length (tabF x4)≤length (List.set (tabF x4) (0+toNat x5) (take (length (getD (tabF x4) (0+toNat x5) ([]:List Int))) (getD (tabF x4) (0+toNat x5) ([]:List Int))++d7.2.1::([]:List Int)))) (gd (preSk n x0 x1 x2 (take (length x3) (drop 0 (List.set x3 (0+toNat (wr .i64 (d7.2.1-1))) (qj2 x3 d7)))) (take (length (tabF x4)) (drop 0 (List.set (tabF x4) (0+toNat x5) (take (length (getD (tabF x4) (0+toNat x5) ([]:List Int))) (getD (tabF x4) (0+toNat x5) ([]:List Int))++d7.2.1::([]:List Int))))) x5∧skF x0 x1 x2 n (take (length x3) (drop 0 (List.set x3 (0+toNat (wr .i64 (d7.2.1-1))) (qj2 x3 d7)))) (take (length (tabF x4)) (drop 0 (List.set (tabF x4) (0+toNat x5) (take (length (getD (tabF x4) (0+toNat x5) ([]:List Int))) (getD (tabF x4) (0+toNat x5) ([]:List Int))++d7.2.1::([]:List Int))))) (toNat x5)≤500000000) (some (Lp.go ((wr .i64 (d7.1+qxh n x0 x1 x2 x3 x4 x5 d7),wr .i64 (d7.2.1+1),()):Int×Int×Unit))))) else some (Lp.go ((d7.1,wr .i64 (d7.2.1+1),()):Int×Int×Unit))))))))))))))))))))) else some (Lp.out ((d7.1,()):Int×Unit)))
theorem qv0 {g:Int→Int} (h:∀ x,0≤g x):∀ c x,0≤sumY g c x
 | 0,x=>waw 0
 | c+1,x=>by rw [sumY];have:=h x;have:=qv0 h c (x+1);omega
theorem qze {a c:List Int} {Y:List (List Int)}:∀ n left begun i,0≤skF a c Y n left begun i
 | 0,left,begun,i=>waw 0
 | n+1,left,begun,i=>by
  rw [skF];split
  ·split<;>omega
  ·split
   ·exact qze n _ _ _
   ·refine qv0 (fun x=>?_) _ _
    split
    ·exact waw 0
    ·split
     ·exact qze n _ _ _
     ·exact waw 0
theorem qxp {step:Int×Int×Unit→Option (Lp (Int×Int×Unit) (Int×Unit))} {g:Int→Int} (hg:∀ x,0≤g x)
  (hb:∀ s x,1≤x→x≤8→0≤s→s+g x≤500000000→step (s,x,())=some (.go (s+g x,x+1,()))) (he:∀ s x,8<x→step (s,x,())=some (.out (s,()))) :
  ∀ (c:Nat) (x s:Int),1≤x→x+c=9→0≤s→s+sumY g c x≤500000000→qat step (s,x,())=some (s+sumY g c x,())
 | 0,x,s,h1,h2,h3,h4=>by
  rw [qa8 (he s x (by omega)),sumY,Int.add_zero]
 | c+1,x,s,h1,h2,h3,h4=>by
  rw [sumY] at h4 ⊢;have:=qv0 hg c (x+1);have:=hg x;rw [qb9 (hb s x h1 (by omega) h3 (by omega)),qxp hg hb he c (x+1) (s+g x) (by omega) (by omega) (by omega) (by omega),Int.add_assoc]
theorem qg2 {l:List Int} (h:∀ x∈l,0≤x∧x≤8) (q:Nat):0≤l.getD q 0∧l.getD q 0≤8:=by
 rw [waa]
 cases hq:l[q]? with
 | none=>exact ⟨waw 0,by decide⟩
 | some r=>exact h r (wb8 hq)
theorem preSk.rows {n:Nat} {a c:List Int} {Y:List (List Int)} {left:List Int} {begun:List (List Int)} {i:Int} (h:preSk n a c Y left begun i):begun.length≤8∧∀ r∈begun,r.length≤8:=by
 have h8:=h.oc.1;have hl:=h.len;refine ⟨by omega,fun r hr=>?_⟩
 obtain ⟨q,hq,rfl⟩:=List.getElem_of_mem hr;have h1:=h.row q;have h2:=qg2 h.oc.2 q;have h3:=qg2 h.oa.2 q;rw [waa,wab hq] at h1;simp only [Option.getD_some] at h1;omega
def gS (a c:List Int) (Y:List (List Int)) (n:Nat) (left:List Int) (begun:List (List Int)) (k:Nat) (x:Int):Int:=if left.getD (x-1).toNat 0=0 then 0 else if qmo a (putX begun k x) k then skF a c Y n (left.set (x-1).toNat (left.getD (x-1).toNat 0-1)) (putX begun k x) k else 0
theorem zb6 {n:Nat} {a c:List Int} {Y:List (List Int)} {left:List Int} {begun:List (List Int)} {k:Nat} (h:preSk (n+1) a c Y left begun (k:Int)) (hk:k<c.length) (hf:((begun.getD k []).length:Int)≠c.getD k 0-a.getD k 0) {s x:Int} (h1:1≤x) (h2:x≤8) (h3:0≤s) (h4:s+gS a c Y n left begun k x≤500000000) :
  st58 n a c Y left begun (k:Int) (s,x,())=some (.go (s+gS a c Y n left begun k x,x+1,())):=by
 obtain ⟨hb8,hbr⟩:=h.rows;have hbl:=h.len;have hc8:=h.oc.1;have hrk:=h.row k;have hck:=qg2 h.oc.2 k;have hak:=qg2 h.oa.2 k;obtain ⟨p,rfl⟩:∃ p:Nat,x=(p:Int)+1:=⟨(x-1).toNat,by omega⟩
 have hx:wr .i64 ((p:Int)+1-1)=p:=(qam (by omega)).trans (by omega)
 have hx':wr .i64 ((p:Int)+1+1)=(p:Int)+1+1:=qam (by omega)
 have e1:((p:Int)+1-1).toNat=p:=by omega
 have hll:=h.lf.1;have hpl:p<left.length:=by omega
 have hv:0≤left.getD p 0∧left.getD p 0≤96:=h.lf.2 _ (qg8 hpl);have ht:tabF begun=begun:=q25 (by omega) fun r hr=>by have:=hbr r hr;omega
 have hw:wr .i64 (left.getD p 0-1)=left.getD p 0-1:=qam (by omega)
 have hc2:qj2 left (s,(p:Int)+1,())=left.getD p 0-1:=by
  unfold qj2;simp only [hx,wad,wbj,hw]
 have tk:∀ r:List Int,r.take r.length=r:=fun r=>wbl
 have hput:putX begun k ((p:Int)+1)=begun.set k (begun.getD k []++[(p:Int)+1]):=rfl;have t1:List.take left.length (left.set p (left.getD p 0-1))=left.set p (left.getD p 0-1):=wal (by simp)
 have t2:List.take begun.length (putX begun k ((p:Int)+1))=putX begun k ((p:Int)+1):=wal (by rw [hput,wak];omega)
 have t3:(putX begun k ((p:Int)+1)).getD k []=begun.getD k []++[(p:Int)+1]:=by rw [hput,qdb (by omega),if_pos rfl]
 have t4:(begun.getD k []++[(p:Int)+1]).length=(begun.getD k []).length+1:=by simp
 have t5:(putX begun k ((p:Int)+1)).length=begun.length:=by rw [hput,wak]
 have hc3:qzf a begun (k:Int) (s,(p:Int)+1,())=qmo a (putX begun k ((p:Int)+1)) k:=by
  unfold qzf;simp only [ht,wbj,wcb,wbl,wad,← hput,t2]
 have hc4:qxh n a c Y left begun (k:Int) (s,(p:Int)+1,())=skF a c Y n (left.set p (left.getD p 0-1)) (putX begun k ((p:Int)+1)) k:=by
  unfold qxh;simp only [ht,hc2,hx,wbj,wcb,wbl,wad,← hput,t1,t2]
 have hsm:small begun:=by unfold small;omega
 have q1:(0≤(p:Int)∧(p:Int)<(left.length:Int))=True:=eq_true ⟨by omega,by omega⟩
 have q2:(0≤(k:Int)∧(k:Int)<(begun.length:Int))=True:=eq_true ⟨by omega,by omega⟩
 have q3:(k<begun.length)=True:=eq_true (by omega)
 have q4:(((begun.getD k []).length+1)*8≤1099511627776)=True:=eq_true (by omega)
 have q5:(left.length≤100000)=True:=eq_true (by omega)
 have q6:(p<left.length)=True:=eq_true hpl;have q7:small begun=True:=eq_true hsm;have hok:(okLs a∧okBg (putX begun k ((p:Int)+1))∧0≤(k:Int)∧(k:Int)<(begun.length:Int)∧0<(begun.getD k []).length+1)=True:=eq_true ⟨h.oa,⟨by rw [t5];exact hb8,fun r hr=>by
  rw [hput] at hr
  rcases List.mem_or_eq_of_mem_set hr with h' | rfl
  ·have:=hbr r h';omega
  ·rw [t4];omega⟩,by omega,by omega,by omega⟩
 unfold gS at h4 ⊢;rw [e1] at h4 ⊢;unfold st58;simp only [qd9.2 h2,wbs,hx,hx',wad,q1,qac]
 by_cases hz:left.getD p 0=0
 ·rw [if_pos hz,qcb.2 hz,wbs,Int.add_zero]
 ·rw [if_neg hz] at h4 ⊢;rw [qa5.2 hz,wbr];simp only [hc2,hc3,hc4,ht,wbj,wcb,wbl,← hput,t1,t2,t3,t4,t5,q2,q3,q4,q5,q6,q7,hok,wae,qac,wak]
  cases hF:qmo a (putX begun k ((p:Int)+1)) k with
  | false =>
   rw [hF] at h4;simp
  | true =>
   rw [hF] at h4;have hnn:=qze (a:=a) (c:=c) (Y:=Y) n (left.set p (left.getD p 0-1)) (putX begun k ((p:Int)+1)) k;simp only [if_true] at h4;have hpr:preSk n a c Y (left.set p (left.getD p 0-1)) (putX begun k ((p:Int)+1)) (k:Int):=by
    refine ⟨h.oa,h.oc,h.ac,h.le,by rw [t5];exact h.len,h.ii,fun q=>?_,⟨by rw [wak];exact hll,fun y hy=>?_⟩,?_⟩
    ·rw [hput,qdb (by omega)]
     split
     ·rename_i hq;subst hq;rw [t4];omega
     ·exact h.row q
    ·rcases List.mem_or_eq_of_mem_set hy with h' | rfl
     ·exact h.lf.2 y h'
     ·omega
    ·have:=h.mu;rw [wad] at this ⊢;rw [t3,t4];omega
   have hw2:wr .i64 (s+skF a c Y n (left.set p (left.getD p 0-1)) (putX begun k ((p:Int)+1)) k)=s+skF a c Y n (left.set p (left.getD p 0-1)) (putX begun k ((p:Int)+1)) k:=qam (by omega)
   rw [wbs,qab ⟨hpr,by omega⟩,hw2]
   simp
theorem q3p {t:SkD} (h:okRs t):small (stX t).1∧∀ r,List.Mem r (stX t).1→small r:=by
 cases hq:(qd5 t).isSome with
 | false =>
  have e2:stX t=([],2,()):=by unfold stX;rw [if_neg (fun h=>by rw [hq] at h;cases h)]
  rw [e2];exact ⟨by unfold small;simp,fun r hr=>by cases hr⟩
 | true =>
  have hS:SkOk t.1 t.2.1:=(qnb (inner:=t.1) (rows:=t.2.1)).1 hq;obtain ⟨_,q2,_⟩:=qtp hS;obtain ⟨R1,t1,t2,_⟩:=qm5 (qq8 hS);obtain ⟨l2,R2,w1,w2⟩:=qx7 40 t.1 R1 t2;have t1:qml t=(t.1,R1,()):=t1;have w0:strG 40 (qml t)=(l2,R2,()):=by rw [t1];exact w1
  obtain ⟨_,m2,m3⟩:=w2.small;rw [q2,w0];exact ⟨m2,m3⟩
theorem qxu {a c:List Int} {Y:List (List Int)} {n:Nat} {left:List Int} {begun:List (List Int)} {k:Nat}:skF a c Y (n+1) left begun k=if k=c.length then (if qlp a Y begun then 1 else 0)
  else if ((begun.getD k []).length:Int)=c.getD k 0-a.getD k 0 then skF a c Y n left begun (k+1)
  else sumY (gS a c Y n left begun k) 8 1:=by rw [skF];rfl
theorem zd0 {a c:List Int} {Y:List (List Int)} {n:Nat} {left:List Int} {begun:List (List Int)} {k:Nat} (x:Int):0≤gS a c Y n left begun k x:=by
 unfold gS;split
 ·exact waw 0
 ·split
  ·exact qze _ _ _ _
  ·exact waw 0
theorem e58 (n:Nat):(∀ (a c:List Int) (Y:List (List Int)) (left:List Int) (begun:List (List Int)) (i:Int),(preSk (n+1) a c Y left begun i∧skF a c Y (n+1) left begun i.toNat≤500000000)→g58 n a c Y left begun i=some (skF a c Y (n+1) left begun i.toNat,()))=(qmq (n+1)).goal Try.prog (spS [qqz,qga,qmq n] [q9n,qtk,qs5,qu5,qq4]) q7w [900000] lm30:=by kernel_rfl
set_option maxHeartbeats 2000000 in
theorem zc6 (n:Nat):(qmq (n+1)).goal Try.prog (spS [qqz,qga,qmq n] [q9n,qtk,qs5,qu5,qq4]) q7w [900000] lm30:=by
 rw [← e58];rintro a c Y left begun i ⟨hp,hb⟩;obtain ⟨k,rfl⟩:∃ k:Nat,i=(k:Int):=⟨i.toNat,by have:=hp.ii;omega⟩
 rw [wad] at hb ⊢;obtain ⟨hb8,hbr⟩:=hp.rows;have hbl:=hp.len;have hc8:=hp.oc.1;have ha8:=hp.oa.1;have hac:=hp.ac;have hii:=hp.ii;have hrk:=hp.row k;have hck:=qg2 hp.oc.2 k;have hak:=qg2 hp.oa.2 k;have ht:tabF begun=begun:=q25 (by omega) fun r hr=>by have:=hbr r hr;omega
 have hsm:small begun:=by unfold small;omega
 rw [qxu] at hb ⊢;unfold g58
 by_cases hk:k=c.length
 ·rw [qcb.2 (show (k:Int)=(c.length:Int) by omega),wbs,if_pos hk]
  have ok:okRs ((a,begun,()):SkD):=⟨by show a.length≤1000;omega,by show begun.length≤1000;omega,fun r hr=>by have:=hbr r hr;omega⟩
  have hS:=q3p ok;unfold qne q7s;simp only [ht,wbj,wcb,wbl,wae,qac];rw [qab (by omega),qab hsm,qab ok]
  unfold qlp;rw [ht];generalize stX ((a,begun,()):SkD)=z at *
  by_cases h0:z.2.1=0
  ·by_cases h1:z.1=Y
   ·simp [q6b,h0,h1,eqL2,qac];rw [h1] at hS;rw [qab ⟨hS.1,fun r hr=>hS.2 r hr⟩]
   ·simp [q6b,h0,h1,eqL2,qac];rw [qab ⟨hS.1,fun r hr=>hS.2 r hr⟩]
  ·simp [q6b,h0,qac]
 rw [if_neg hk] at hb ⊢;rw [qa5.2 (show (k:Int)≠(c.length:Int) by omega),wbr]
 have hwk:wr .i64 ((k:Int)+1)=((k+1:Nat):Int):=(qam (by omega)).trans (by omega)
 have hwd:wr .i64 (c.getD k 0-a.getD k 0)=c.getD k 0-a.getD k 0:=qam (by omega)
 have hpp:((begun.getD k []).length:Int)=c.getD k 0-a.getD k 0→preSk n a c Y left begun ((k+1:Nat):Int):=fun hf=>by
  refine ⟨hp.oa,hp.oc,hp.ac,hp.le,hp.len,⟨by omega,by omega⟩,hp.row,hp.lf,?_⟩
  have:=hp.mu;rw [wad] at this ⊢;omega
 have hloop:((begun.getD k []).length:Int)≠c.getD k 0-a.getD k 0→qat (st58 n a c Y left begun (k:Int)) (0,1,())=some (sumY (gS a c Y n left begun k) 8 1,()):=fun hf=>by
  rw [if_neg hf] at hb;have:=qxp (step:=st58 n a c Y left begun (k:Int)) (g:=gS a c Y n left begun k) zd0 (fun s x h1 h2 h3 h4=>zb6 hp (by omega) hf h1 h2 h3 h4) (fun s x hx=>by
   unfold st58;simp only [qdn.2 hx,wbr]) 8 1 0 (by omega) (by omega) (by omega) (by omega)
  rw [Int.zero_add] at this;exact this
 by_cases hka:k<a.length
 ·rw [qfs (qak.2 (show (k:Int)<(a.length:Int) by omega)),qab ⟨by omega,by omega⟩,qab ⟨by omega,by omega⟩,qab ⟨by omega,by omega⟩,wad,hwd]
  by_cases hf:((begun.getD k []).length:Int)=c.getD k 0-a.getD k 0
  ·rw [if_pos hf] at hb ⊢;rw [qfs (qcb.2 hf),hwk,wad,qab ⟨hpp hf,hb⟩]
  ·rw [if_neg hf,qf6 (qa5.2 hf)];exact hloop hf
 ·have z1:a.getD k 0=0:=by rw [waa,wac (by omega)];rfl
  rw [qf6 (qag.2 (show (a.length:Int)≤(k:Int) by omega)),qab ⟨by omega,by omega⟩,qab ⟨by omega,by omega⟩,wad]
  rw [z1] at hwd hpp hloop hb ⊢;rw [hwd]
  by_cases hf:((begun.getD k []).length:Int)=c.getD k 0-0
  ·rw [if_pos hf] at hb ⊢;rw [qfs (qcb.2 hf),hwk,wad,qab ⟨hpp hf,hb⟩]
  ·rw [if_neg hf,qf6 (qa5.2 hf)];exact hloop hf
theorem zby:(qmq 0).Ok Try.prog:=qli _ (by kernel_rfl) (by
 have e:(∀ (a c:List Int) (Y:List (List Int)) (left:List Int) (begun:List (List Int)) (i:Int) (p:List Prop),some [preSk 0 a c Y left begun i∧skF a c Y 0 left begun i.toNat≤500000000]=some p→¬ Ab.allP p)=(allD ((qmq 0).ins.flatMap TV.ts++tsB (qmq 0).ibl) fun env=>∀ p,(qmq 0).pre env=some p→¬ Ab.allP p):=by kernel_rfl
 rw [← e];intro a c Y left begun i p hp hq;cases hp;exact absurd (Ab.allP_one.1 hq).1.mu (by omega))
theorem ok58:∀ n,(qmq n).Ok Try.prog
 | 0=>zby
 | n+1=>SCon.of_goal qb4 (okC ok45 (okC ok27 (okC ok32 (okC ok39 (okC zd2 okN))))) (okS zdv (okS q1u (okS (ok58 n) okS0))) (qmq (n+1)) (zc6 n)
def q5r:Con:=mkC 13 [.d LI,.d LI,.d LLI] [.bool] (fun (a c:List Int) (rows:List (List Int))=>[small a∧small c∧small rows]) (fun (a c:List Int) (rows:List (List Int))=>(true,()))
def qiy (x0 x1:List Int) (d4:Int×List Int×List Int×Unit):Int:=(qr8 (List.take (List.length (List.take 12 x0)) (List.drop 0 (List.take 12 x0))) (List.take (List.length (List.take 12 (List.take (List.length d4.2.1) (List.drop 0 d4.2.1)))) (List.drop 0 (List.take 12 (List.take (List.length d4.2.1) (List.drop 0 d4.2.1))))) (List.take (List.length (List.take 12 x1)) (List.drop 0 (List.take 12 x1)))).1
def qbo (x0 x1:List Int) (d4:Int×List Int×List Int×Unit):Int:=(qr8 (List.take (List.length (List.take 12 x0)) (List.drop 0 (List.take 12 x0))) (List.take (List.length (List.take 12 (List.take (List.length d4.2.1) (List.drop 0 d4.2.1)))) (List.drop 0 (List.take 12 (List.take (List.length d4.2.1) (List.drop 0 d4.2.1))))) (List.take (List.length (List.take 12 x1)) (List.drop 0 (List.take 12 x1)))).2.1
def q7n (x0 x1:List Int) (x2:List (List Int)) (d4:Int×List Int×List Int×Unit):Bool:=bif bif bif bif !ieq (qbo x0 x1 d4) 0 then true else !qd4 (tabF x2) then true else !qad x0 then true else !qad x1 then true else ilt 6 (wr .i64 (boxW x1-boxW x0))
def q7y (x0 x1:List Int) (d4:Int×List Int×List Int×Unit):Bool:=bif !ieq (wr .i64 (boxW x0+boxW (List.take (List.length d4.2.1) (List.drop 0 d4.2.1)))) (boxW x1) then true else ilt (↑(List.length x1):Int) (↑(List.length x0):Int)
def qy5 (x0 x1:List Int) (x2:List (List Int)) (d5:Int×List Int×Unit):Int:=skF x0 x1 (tabF x2) 81 (List.take (List.length d5.2.1) (List.drop 0 d5.2.1)) (List.take (List.length x1) (List.drop 0 (List.replicate (List.length x1) ([]:List Int)))) 0
open List Int in
def g13 (x0 x1:List Int) (x2:List (List Int)):Option (Bool×Unit):=gd (small x2) (gd ((0:Nat)=0) (qat (fun (d3:Int×List Int×Unit)=>bif ilt d3.1 (↑(length (tabF x2)):Int) then gd (0≤d3.1∧d3.1<(↑(length (tabF x2)):Int)) (gd (length d3.2.1≤length d3.2.1) (gd ((length d3.2.1+1)*(8:Nat)≤1099511627776) (gd (length d3.2.1+1=length (take (length d3.2.1) d3.2.1++(↑(length (getD (tabF x2) (toNat d3.1) ([]:List Int))):Int)::([]:List Int))) (some (Lp.go ((wr .i64 (d3.1+1),take (length d3.2.1) d3.2.1++(↑(length (getD (tabF x2) (toNat d3.1) ([]:List Int))):Int)::([]:List Int),()):Int×List Int×Unit)))))) else gd (length d3.2.1=length d3.2.1) (gd ((0:Nat)=0) (qat (fun (d4:Int×List Int×List Int×Unit)=>bif ile d4.1 8 then gd (okL2 (tabF x2)) (gd (length d4.2.2.1≤length d4.2.2.1) (gd ((length d4.2.2.1+1)*(8:Nat)≤1099511627776) (gd (length d4.2.1=length d4.2.1) (gd (length d4.2.2.1+1=length (take (length d4.2.2.1) d4.2.2.1++cntF (tabF x2) d4.1::([]:List Int))) (some (Lp.go ((wr .i64 (d4.1+1),d4.2.1,take (length d4.2.2.1) d4.2.2.1++cntF (tabF x2) d4.1::([]:List Int),()):Int×List Int×List Int×Unit))))))) else gd (0+length d4.2.1≤length d4.2.1) (gd (0+length (take 12 x0)≤length (take 12 x0)) (gd (0+length (take 12 (take (length d4.2.1) (drop 0 d4.2.1)))≤length (take 12 (take (length d4.2.1) (drop 0 d4.2.1)))) (gd (0+length (take 12 x1)≤length (take 12 x1)) (gd (length (take (length (take 12 x0)) (drop 0 (take 12 x0)))≤1000∧length (take (length (take 12 (take (length d4.2.1) (drop 0 d4.2.1)))) (drop 0 (take 12 (take (length d4.2.1) (drop 0 d4.2.1)))))≤1000∧length (take (length (take 12 x1)) (drop 0 (take 12 x1)))≤1000) (gd ((!!ieq (qbo x0 x1 d4) 0)=true→(!!ieq (qbo x0 x1 d4) 0)=true∧okL2 (tabF x2)) (gd ((!!ieq (qbo x0 x1 d4) 0)=true→(!!ieq (qbo x0 x1 d4) 0)=true) (gd ((!ieq (qbo x0 x1 d4) 0)=false→(!!ieq (qbo x0 x1 d4) 0)=true) (gd ((!bif !ieq (qbo x0 x1 d4) 0 then true else !qd4 (tabF x2))=true→(!bif !ieq (qbo x0 x1 d4) 0 then true else !qd4 (tabF x2))=true∧small x0) (gd ((!bif !ieq (qbo x0 x1 d4) 0 then true else !qd4 (tabF x2))=true→(!bif !ieq (qbo x0 x1 d4) 0 then true else !qd4 (tabF x2))=true) (gd ((bif !ieq (qbo x0 x1 d4) 0 then true else !qd4 (tabF x2))=false→(!bif !ieq (qbo x0 x1 d4) 0 then true else !qd4 (tabF x2))=true) (gd ((!bif bif !ieq (qbo x0 x1 d4) 0 then true else !qd4 (tabF x2) then true else !qad x0)=true→(!bif bif !ieq (qbo x0 x1 d4) 0 then true else !qd4 (tabF x2) then true else !qad x0)=true∧small x1) (gd ((!bif bif !ieq (qbo x0 x1 d4) 0 then true else !qd4 (tabF x2) then true else !qad x0)=true→(!bif bif !ieq (qbo x0 x1 d4) 0 then true else !qd4 (tabF x2) then true else !qad x0)=true) (gd ((bif bif !ieq (qbo x0 x1 d4) 0 then true else !qd4 (tabF x2) then true else !qad x0)=false→(!bif bif !ieq (qbo x0 x1 d4) 0 then true else !qd4 (tabF x2) then true else !qad x0)=true) (gd ((!bif bif bif !ieq (qbo x0 x1 d4) 0 then true else !qd4 (tabF x2) then true else !qad x0 then true else !qad x1)=true→(!bif bif bif !ieq (qbo x0 x1 d4) 0 then true else !qd4 (tabF x2) then true else !qad x0 then true else !qad x1)=true∧length x1≤1000) (gd ((!bif bif bif !ieq (qbo x0 x1 d4) 0 then true else !qd4 (tabF x2) then true else !qad x0 then true else !qad x1)=true→(!bif bif bif !ieq (qbo x0 x1 d4) 0 then true else !qd4 (tabF x2) then true else !qad x0 then true else !qad x1)=true∧length x0≤1000) (gd ((!bif bif bif !ieq (qbo x0 x1 d4) 0 then true else !qd4 (tabF x2) then true else !qad x0 then true else !qad x1)=true→(!bif bif bif !ieq (qbo x0 x1 d4) 0 then true else !qd4 (tabF x2) then true else !qad x0 then true else !qad x1)=true∧(!bif bif bif !ieq (qbo x0 x1 d4) 0 then true else !qd4 (tabF x2) then true else !qad x0 then true else !qad x1)=true) (gd ((!bif bif bif !ieq (qbo x0 x1 d4) 0 then true else !qd4 (tabF x2) then true else !qad x0 then true else !qad x1)=true→(!bif bif bif !ieq (qbo x0 x1 d4) 0 then true else !qd4 (tabF x2) then true else !qad x0 then true else !qad x1)=true) (gd ((bif bif bif !ieq (qbo x0 x1 d4) 0 then true else !qd4 (tabF x2) then true else !qad x0 then true else !qad x1)=false→(!bif bif bif !ieq (qbo x0 x1 d4) 0 then true else !qd4 (tabF x2) then true else !qad x0 then true else !qad x1)=true) (bif q7n x0 x1 x2 d4 then gd ((!ieq (qbo x0 x1 d4) 0)=true→(!ieq (qbo x0 x1 d4) 0)=true) (gd (ieq (qbo x0 x1 d4) 0=false→(!ieq (qbo x0 x1 d4) 0)=true) (gd ((bif ieq (qbo x0 x1 d4) 0 then true else ieq (qbo x0 x1 d4) 2)=true→(bif ieq (qbo x0 x1 d4) 0 then true else ieq (qbo x0 x1 d4) 2)=true) (some (Lp.out (Lp.out ((bif bif ieq (qbo x0 x1 d4) 0 then true else ieq (qbo x0 x1 d4) 2 then true else false,()):Bool×Unit)))))) else gd (length x0≤1000) (gd (0+length d4.2.1≤length d4.2.1) (gd (length (take (length d4.2.1) (drop 0 d4.2.1))≤1000) (gd (length x1≤1000) (gd ((!!ieq (wr .i64 (boxW x0+boxW (take (length d4.2.1) (drop 0 d4.2.1)))) (boxW x1))=true→(!!ieq (wr .i64 (boxW x0+boxW (take (length d4.2.1) (drop 0 d4.2.1)))) (boxW x1))=true) (gd ((!!ieq (wr .i64 (boxW x0+boxW (take (length d4.2.1) (drop 0 d4.2.1)))) (boxW x1))=true→(!!ieq (wr .i64 (boxW x0+boxW (take (length d4.2.1) (drop 0 d4.2.1)))) (boxW x1))=true) (gd ((!!ieq (wr .i64 (boxW x0+boxW (take (length d4.2.1) (drop 0 d4.2.1)))) (boxW x1))=true→(!!ieq (wr .i64 (boxW x0+boxW (take (length d4.2.1) (drop 0 d4.2.1)))) (boxW x1))=true∧(!!ieq (wr .i64 (boxW x0+boxW (take (length d4.2.1) (drop 0 d4.2.1)))) (boxW x1))=true) (gd ((!ieq (wr .i64 (boxW x0+boxW (take (length d4.2.1) (drop 0 d4.2.1)))) (boxW x1))=false→(!!ieq (wr .i64 (boxW x0+boxW (take (length d4.2.1) (drop 0 d4.2.1)))) (boxW x1))=true) (bif q7y x0 x1 d4 then gd (ieq (qiy x0 x1 d4) 0=true→ieq (qiy x0 x1 d4) 0=true) (some (Lp.out (Lp.out ((bif ieq (qiy x0 x1 d4) 0 then true else false,()):Bool×Unit)))) else gd (length d4.2.2.1=length d4.2.2.1) (qat (fun (d5:Int×List Int×Unit)=>bif ilt d5.1 (↑(length x0):Int) then gd (0≤d5.1∧d5.1<(↑(length x0):Int)) (gd (0≤d5.1∧d5.1<(↑(length x1):Int)) (bif ilt (getD x1 (toNat d5.1) 0) (getD x0 (toNat d5.1) 0) then gd (ieq (qiy x0 x1 d4) 0=true→ieq (qiy x0 x1 d4) 0=true) (some (Lp.out (Lp.out (Lp.out ((bif ieq (qiy x0 x1 d4) 0 then true else false,()):Bool×Unit))))) else gd (length d5.2.1=length d5.2.1) (some (Lp.go ((wr .i64 (d5.1+1),d5.2.1,()):Int×List Int×Unit))))) else gd (0≤(↑(length x1):Int)∧(↑(length x1):Int)≤(↑(length x1):Int)∧(↑(length x1):Int)*(24:Int)≤1099511627776) (gd (0+length d5.2.1≤length d5.2.1) (gd (0+length x1≤length (replicate (length x1) ([]:List Int))) (gd (preSk 81 x0 x1 (tabF x2) (take (length d5.2.1) (drop 0 d5.2.1)) (take (length x1) (drop 0 (replicate (length x1) ([]:List Int)))) 0∧skF x0 x1 (tabF x2) 81 (take (length d5.2.1) (drop 0 d5.2.1)) (take (length x1) (drop 0 (replicate (length x1) ([]:List Int)))) (0:Nat)≤500000000) (gd (ieq (qy5 x0 x1 x2 d5) (qiy x0 x1 d4)=true→ieq (qy5 x0 x1 x2 d5) (qiy x0 x1 d4)=true) (some (Lp.out (Lp.out (Lp.out ((bif ieq (qy5 x0 x1 x2 d5) (qiy x0 x1 d4) then true else false,()):Bool×Unit)))))))))) ((0,d4.2.2.1,()):Int×List Int×Unit)))))))))))))))))))))))))))))) ((1,d3.2.1,([]:List Int),()):Int×List Int×List Int×Unit)))) ((0,([]:List Int),()):Int×List Int×Unit)))
def q8q:List LSh:=LSh.mk (((7,TV.slf (0) (1)):Nat×TV)::((20,TV.v (Ty.int .i64)):Nat×TV)::([]:List (Nat×TV))) (TB.arr (Ty.int .i64) true::([]:List TB))::LSh.mk (((7,TV.slf (0) (1)):Nat×TV)::((8,TV.slf (1) (1)):Nat×TV)::((11,TV.v (Ty.int .i64)):Nat×TV)::([]:List (Nat×TV))) (TB.arr (Ty.int .i64) true::TB.arr (Ty.int .i64) true::([]:List TB))::LSh.mk (((8,TV.slf (0) (1)):Nat×TV)::((106,TV.v (Ty.int .i64)):Nat×TV)::([]:List (Nat×TV))) (TB.arr (Ty.int .i64) true::([]:List TB))::([]:List LSh)
theorem qra {A:Type} {g:Int→List A} {p:A→Bool}:∀ (c:Nat) (x:Int),((catX g c x).countP p:Int)=sumY (fun x=>((g x).countP p:Int)) c x
 | 0,x=>rfl
 | c+1,x=>by
  rw [catX,sumY,← qra c (x+1),List.countP_append];omega
theorem qqq {g g':Int→Int}:∀ (c:Nat) (x:Int),(∀ y,x≤y→y<x+c→g y=g' y)→sumY g c x=sumY g' c x
 | 0,x,h=>rfl
 | c+1,x,h=>by rw [sumY,sumY,h x (by omega) (by omega),qqq c (x+1) (fun y h1 h2=>h y (by omega) (by omega))]
theorem qtg {g:Int→Int} {x0:Int}:∀ (c:Nat) (x:Int),x≤x0→(∀ y,x≤y→y<x0→g y=0)→sumY g c x=sumY g (x+c-x0).toNat x0
 | 0,x,h,hg=>by rw [show (x+(0:Nat)-x0).toNat=0 by omega];rfl
 | c+1,x,h,hg=>by
  by_cases hx:x=x0
  ·subst hx;rw [show (x+(c+1:Nat)-x).toNat=c+1 by omega]
  ·rw [sumY,hg x (by omega) (by omega),qtg c (x+1) (by omega) (fun y h1 h2=>hg y (by omega) h2),Int.zero_add]
   congr 1;omega
theorem q08 {L:Nat} {R:List (List Int)} {r:List Int} {x:Int}:putX (pad L (R++[r])) R.length x=pad L (R++[r++[x]]):=by
 unfold putX;rw [qsj (wae _),qa6,q9c]
theorem qxs {a:List Int} {L:Nat} {R:List (List Int)} {r:List Int} {x:Int} (hx:1≤x):qmo a (putX (pad L (R++[r])) R.length x) R.length=true↔qcu a (R++[r])≤x:=by
 rw [q08,qgt];unfold qmo;rw [qsj (wae _),qa6];have l1:(r++[x]).length-1=r.length:=by simp
 have l2:(r++[x]).length-2=r.length-1:=by simp
 have g1:(r++[x]).getD r.length 0=x:=by simp [waa]
 have g2:0<r.length→(r++[x]).getD (r.length-1) 0=r.getLastD 0:=fun h=>by
  rw [qn1,qbq (by omega)]
 rw [l1,l2,g1];have hne:r≠[]↔0<r.length:=List.length_pos_iff.symm;have hA:(!(decide (0<r.length) && decide (x<(r++[x]).getD (r.length-1) 0)))=true↔(r≠[]→r.getLastD 0≤x):=by
  rw [hne]
  by_cases h:0<r.length
  ·rw [g2 h];simp [h]
  ·simp [h]
 rw [wbc,hA]
 by_cases hR:R.length=0
 ·have:qj4 a R r=0:=by unfold qj4 atF;rw [if_pos (.inl (by omega))]
  rw [this];simp only [hR,decide_true,Bool.true_or,and_true];exact ⟨fun h=>⟨hx,by omega,h⟩,fun h=>h.2.2⟩
 ·have hp:(pad L (R++[r++[x]])).getD (R.length-1) []=(R++[r]).getD (R.length-1) []:=by
   rw [qsj (by omega),qbq (by omega),qbq (by omega)]
  have e0:((R.length:Int)-1)=((R.length-1:Nat):Int):=by omega
  have hab:qj4 a R r=if a.getD R.length 0+(r.length:Int)-a.getD (R.length-1) 0<0 then 0 else ((R++[r]).getD (R.length-1) []).getD (a.getD R.length 0+(r.length:Int)-a.getD (R.length-1) 0).toNat 0:=by
   unfold qj4 atF;rw [e0,qba,qba,wad]
   by_cases hc:a.getD R.length 0+(r.length:Int)-a.getD (R.length-1) 0<0
   ·rw [if_pos (.inr (by omega)),if_pos hc]
   ·rw [if_neg (by omega),if_neg hc]
  rw [hp,hab];generalize a.getD R.length 0+(r.length:Int)-a.getD (R.length-1) 0=cc;generalize (R++[r]).getD (R.length-1) []=ro;simp only [hR,decide_false,Bool.false_or,wbw,wbn]
  by_cases hc:cc<0
  ·rw [if_pos hc];exact ⟨fun h=>⟨hx,by omega,h.1⟩,fun h=>⟨h.2.2,.inl (.inl hc)⟩⟩
  ·rw [if_neg hc];constructor
   ·rintro ⟨h1,(h2 | h2) | h2⟩
    ·omega
    ·rw [waa,wac (by omega)]
     exact ⟨hx,by show (0:Int)<x;omega,h1⟩
    ·exact ⟨hx,h2,h1⟩
   ·rintro ⟨_,h2,h3⟩;exact ⟨h3,.inr h2⟩
theorem qw0 {a c:List Int} {Y:List (List Int)} (hL:c.length≤8) (h0:∀ k,a.getD k 0≤c.getD k 0) (h1:∀ k,0≤a.getD k 0) (h8:∀ k,c.getD k 0≤8):∀ (n m:Nat) (left:List Int) (R:List (List Int)) (r:List Int),left.length=8→R.length+1≤c.length→a.getD R.length 0+(r.length:Int)≤c.getD R.length 0 →
  9*(c.length-(R.length+1))+(8-r.length)<n→9*(c.length-R.length)+(8-r.length)<m →
  skF a c Y m left (pad c.length (R++[r])) R.length=((fil a c 8 false n left (R++[r])).countP (qlp a Y):Int)
 | 0,m,left,R,r,hll,h1',h2,h3,h4=>by omega
 | n+1,0,left,R,r,hll,h1',h2,h3,h4=>by omega
 | n+1,m+1,left,R,r,hll,h1',h2,h3,h4=>by
  have hk8:=h8 R.length;have hk1:=h1 R.length;have hr8:r.length≤8:=by omega
  rw [fil,qxu,qin,qba,qba,qsj (wae _),qa6,if_neg (show ¬ R.length=c.length by omega)]
  by_cases hf:a.getD R.length 0+(r.length:Int)=c.getD R.length 0
  ·rw [if_pos (decide_eq_true hf),if_pos (by omega)]
   by_cases hl:(R++[r]).length=c.length
   ·rw [if_pos hl];obtain ⟨m',rfl⟩:∃ m',m=m'+1:=⟨m-1,by omega⟩
    rw [qxu,if_pos (by simpa using hl)]
    have:pad c.length (R++[r])=R++[r]:=by simp [pad,hl]
    rw [this,List.countP_cons,List.countP_nil];split<;>simp
   ·have hl':R.length+1<c.length:=by
     simp only [waf,wbf,wbm] at hl;omega
    rw [if_neg hl,← qw0 hL h0 h1 h8 n m left (R++[r]) [] hll (by simp;omega) (by simpa using h0 _) (by simp;omega) (by simp;omega),q60 (by simp;omega)]
    simp
  ·rw [decide_eq_false hf,if_neg Bool.false_ne_true,if_neg (by omega),qra]
   have hlt:a.getD R.length 0+(r.length:Int)<c.getD R.length 0:=by omega
   have hpos:=qq6 (inner:=a) (rows:=R++[r]);rw [qtg (x0:=qcu a (R++[r])) 8 1 hpos (fun y h5 h6=>by
    unfold gS;split
    ·rfl
    ·rw [if_neg];intro hq;have:=(qxs h5).1 hq;omega)]
   rw [show (1+((8:Nat):Int)-qcu a (R++[r])).toNat=((8:Int)+1-qcu a (R++[r])).toNat by omega]
   refine qqq _ _ fun y h5 h6=>?_
   unfold gS useX
   by_cases hz:left.getD (y-1).toNat 0=0
   ·rw [if_pos hz,if_neg Bool.false_ne_true,if_pos hz];rfl
   ·rw [if_neg hz,if_neg Bool.false_ne_true,if_neg hz,if_pos ((qxs (by omega)).2 h5),qc7,q08]
    exact qw0 hL h0 h1 h8 n m (left.set (y-1).toNat (left.getD (y-1).toNat 0-1)) R (r++[y]) (by rw [wak];exact hll) h1' (by rw [waf,wbk];omega) (by simp;omega) (by simp;omega)
theorem q44 {m w:List Nat} {i j:Nat}:outW m (w++[i]) j=outW m w j+if j=i then 1 else 0:=by
 unfold outW;rw [List.count_append,List.count_singleton]
 by_cases h:j=i
 ·subst h;simp;omega
 ·rw [if_neg h,if_neg (by simp;omega)];omega
theorem q34 {m w u:List Nat} {j:Nat}:outW m w j≤outW m (w++u) j:=by
 unfold outW;rw [List.count_append];omega
theorem qvx {m c:List Nat}:∀ (n:Nat) (w x:List Nat),x∈wdN m c n w→∃ u,x=w++u∧u.length=n∧qkp m w u
 | 0,w,x,h=>by
  rw [wdN,wch] at h;exact ⟨[],by rw [h,wci],rfl,trivial⟩
 | n+1,w,x,h=>by
  rw [wdN,List.mem_flatMap] at h;obtain ⟨i,hi,hx⟩:=h
  cases hc:(Nat.blt (outW m w i) (gN c i) && canN m w i) with
  | false=>rw [hc] at hx;cases hx
  | true =>
   rw [hc,wbs] at hx;rw [wbc] at hc;obtain ⟨u,h1,h2,h3⟩:=qvx n _ _ hx;exact ⟨i::u,by rw [h1,way];rfl,by rw [wbf,h2],⟨List.mem_range.1 hi,hc.2⟩,h3⟩
theorem qv6 {m c:List Nat}:∀ (n:Nat) (w u:List Nat),qkp m w u→u.length=n→(∀ i,outW m (w++u) i≤gN c i)→w++u∈wdN m c n w
 | 0,w,u,hv,hl,ho=>by
  obtain rfl:u=[]:=wb5 hl;rw [wdN,wci];exact List.mem_singleton.2 rfl
 | n+1,w,[],hv,hl,ho=>by cases hl
 | n+1,w,i::u,hv,hl,ho=>by
  obtain ⟨⟨h8,hc⟩,hv⟩:=hv;have hap:w++i::u=(w++[i])++u:=by rw [way];rfl
  rw [wdN,List.mem_flatMap];refine ⟨i,List.mem_range.2 h8,?_⟩;have h1:=ho i;rw [hap] at h1;have h2:=q34 (m:=m) (w:=w++[i]) (u:=u) (j:=i);rw [q44,if_pos rfl] at h2;rw [hc,show Nat.blt (outW m w i) (gN c i)=true by rw [Nat.blt_eq];omega,wbz,wbs,hap]
  exact qv6 n (w++[i]) u hv (by simpa using hl) (fun j=>by rw [← hap];exact ho j)
theorem qyg {m c:List Nat}:∀ (n:Nat) (w:List Nat),(wdN m c n w).Nodup
 | 0,w=>by rw [wdN];simp
 | n+1,w=>by
  rw [wdN];refine List.pairwise_flatMap.2 ⟨fun i _=>?_,?_⟩
  ·cases (Nat.blt (outW m w i) (gN c i) && canN m w i) with
   | true=>exact qyg n _
   | false=>exact List.Pairwise.nil
  ·refine List.Pairwise.imp ?_ List.nodup_range;intro i j hij x hx y hy e;subst e;have hat:∀ k,x∈(bif (Nat.blt (outW m w k) (gN c k) && canN m w k) then wdN m c n (w++[k]) else [])→x.getD w.length 0=k:=fun k hk=>by
    cases hc:(Nat.blt (outW m w k) (gN c k) && canN m w k) with
    | false=>rw [hc] at hk;cases hk
    | true =>
     rw [hc,wbs] at hk;obtain ⟨u,h1,_⟩:=qvx n _ _ hk;rw [h1,way,waa,wah (wae _),Nat.sub_self];rfl
   exact hij ((hat i hx).symm.trans (hat j hy))
theorem qul (A:List WP) (i:Nat) (x:Int):A.count (i,x)=(rowW A i).count x:=by
 induction A with
 | nil=>rfl
 | cons a A ih =>
  unfold rowW at ih ⊢;rw [List.count_cons,ih]
  by_cases h:a.1=i
  ·rw [List.filter_cons_of_pos (by simpa using h),wbv,List.count_cons]
   congr 1;obtain ⟨j,y⟩:=a;simp only at h;subst h
   by_cases hy:y=x
   ·subst hy;simp
   ·rw [if_neg (by simpa using hy),if_neg (by simpa using hy)]
  ·rw [List.filter_cons_of_neg (by simpa using h),if_neg (fun hq=>h (by rw [eq_of_beq hq])),Nat.add_zero]
theorem qva {A B:List WP} (h:∀ i,(rowW A i).Perm (rowW B i)):A.Perm B:=List.perm_iff_count.2 fun a=>by
 obtain ⟨i,x⟩:=a;rw [qul,qul,(h i).count_eq]
theorem q59 {a b:WP} (h1:leW a b=true) (h2:leW b a=true):a=b:=by
 unfold leW at h1 h2;rw [wbn] at h1 h2;exact Prod.ext (by omega) (by omega)
theorem quk {A B:List WP} (hA:A.Pairwise fun a b=>leW a b=true) (hB:B.Pairwise fun a b=>leW a b=true) (h:∀ i,(rowW A i).Perm (rowW B i)):A=B :=
 (qva h).eq_of_pairwise (fun a b _ _=>q59) hA hB
theorem q5d {W:List WP} (h:∀ k (hk:k+1<W.length),leW W[k] W[k+1]=true):W.Pairwise fun a b=>leW a b=true:=by
 rw [wau];have step:∀ d a (h1:a+d+1<W.length),leW (W[a]'(by omega)) W[a+d+1]=true:=by
  intro d
  induction d with
  | zero=>intro a h1;exact h a h1
  | succ d ih=>intro a h1;exact quz _ _ _ (ih a (by omega)) (h (a+d+1) (by omega))
 intro a b ha hb hab;have:=step (b-a-1) a (by omega)
 simp only [show a+(b-a-1)+1=b by omega] at this
 exact this
theorem zcc {A B:List WP} (h:A.map (·.2)=B.map (·.2)):fW A=fW B:=by
 funext k;unfold fW;have:∀ i:Nat,(A[i]?).map (·.2)=(B[i]?).map (·.2):=fun i=>by rw [← waq,← waq,h]
 have:=this (k-1);cases h1:A[k-1]?<;>cases h2:B[k-1]?<;>rw [h1,h2] at this
 ·simp at this
 ·simp at this
 ·simp at this;simp [this]
theorem q4q {w:List Nat} {v:List Int} (h:w.length=v.length):(w.zip v).map (·.1)=w:=List.map_fst_zip (by omega)
theorem q4t {w:List Nat} {v:List Int} (h:w.length=v.length):(w.zip v).map (·.2)=v:=List.map_snd_zip (by omega)
theorem qrb {w u:List Nat} {v:List Int} (h1:w.length=v.length) (h2:u.length=v.length) (hd:∀ k,k+1<v.length→(gN w k<gN w (k+1)↔gN u k<gN u (k+1))) (hs:(u.zip v).Pairwise fun a b=>leW a b=true):(w.zip v).Pairwise fun a b=>leW a b=true:=by
 refine q5d fun k hk=>?_
 have hk':k+1<v.length:=by rw [List.length_zip] at hk;omega
 have:=List.pairwise_iff_getElem.1 hs k (k+1) (by rw [List.length_zip];omega) (by rw [List.length_zip];omega) (by omega)
 have hg:∀ (l:List Nat) (j:Nat) (hj:j<l.length),gN l j=l[j]:=fun l j hj=>by
  unfold gN;rw [waa,wab hj];rfl
 have hdd:=hd k hk';rw [hg w k (by omega),hg w (k+1) (by omega),hg u k (by omega),hg u (k+1) (by omega)] at hdd
 unfold leW at this ⊢;rw [wbn] at this ⊢;simp only [List.getElem_zip] at this ⊢;omega
theorem qx6 {n:Nat} {R:List (List Nat)}:∀ (k i:Nat),trK n R k≤i→i<k→(rwN R i).length=0
 | 0,i,h1,h2=>by omega
 | k+1,i,h1,h2=>by
  rw [trK] at h1
  cases hc:(Nat.blt n (k+1) && Nat.beq (rwN R k).length 0) with
  | false=>rw [hc,wbr] at h1;omega
  | true =>
   rw [hc,wbs] at h1;rw [wbc] at hc
   by_cases hi:i=k
   ·subst hi;exact waj hc.2
   ·exact qx6 k i h1 (by omega)
theorem za0 {R:List (List Nat)} {l:List Nat} (i:Nat):rwN (trN (l,R)).2 i=rwN R i:=by
 unfold trN;simp only;generalize hK:trK (trZ l).length R R.length=K;unfold rwN;rw [waa,waa,wa1]
 by_cases h:i<K
 ·rw [if_pos h]
 ·rw [if_neg h]
  by_cases h2:i<R.length
  ·have:=qx6 (n:=(trZ l).length) (R:=R) R.length i (by omega) h2
   unfold rwN at this;rw [waa] at this;exact (wb5 this).symm
  ·rw [wac (by omega)]
theorem qf8 (A:List WP):(A.map (·.1)).zip (A.map (·.2))=A:=by
 induction A with
 | nil=>rfl
 | cons a A ih=>rw [wbv,wbv,List.zip_cons_cons,ih]
theorem qxe {W:List WP} (h:∀ i∈W.map (·.1),i<8) {i:Nat} (hi:8≤i):rowW W i=[]:=by
 unfold rowW;rw [List.filter_eq_nil_iff.2,List.map_nil];intro a ha hq;have:=h a.1 (List.mem_map.2 ⟨a,ha,rfl⟩);have:a.1=i:=eq_of_beq hq;omega
theorem qvk {W:List WP} (h:∀ i∈W.map (·.1),i<8) (i:Nat):(mapR (fW W) (qeh (W.map (·.1)))).getD i []=rowW W i:=by
 rw [qu4]
 by_cases hi:i<8
 ·rw [if_pos hi]
 ·rw [if_neg hi,qxe h (by omega)]
structure Chk (m w:List Nat) (U:List (List Nat)):Prop where
 ok:okN2 w w.length (m,qeh w)=true
 str:strN w 40 (trN (m,qeh w))=some U
 rows:(trN ([],qeh (usN m w))).2=U
 des:∀ k,k<w.length→(gN w k<gN w (k+1)↔gN (usN m w) k<gN (usN m w) (k+1))
 lt:∀ i∈usN m w,i<8
 len:(usN m w).length=w.length
theorem q1x {m w:List Nat} (h:chk2 m w=true):∃ U,Chk m w U:=by
 unfold chk2 at h;rw [wbc] at h
 cases hs:strN w 40 (trN (m,qeh w)) with
 | none=>rw [hs] at h;cases h.2
 | some U =>
  rw [hs] at h;have hu:usN m w=usOf U w.length:=by unfold usN;rw [hs]
  simp only [wbc,wbn] at h;obtain ⟨h1,⟨h2,h3⟩,h4⟩:=h;refine ⟨U,h1,hs,by rw [hu];exact h2,fun k hk=>?_,fun i hi=>?_,by rw [hu];unfold usOf;simp⟩
  ·have:=eq_of_beq (List.all_eq_true.1 h3 k (List.mem_range.2 hk));rw [hu,← Nat.blt_eq,← Nat.blt_eq,this]
  ·rw [hu] at hi;have:=List.all_eq_true.1 h4 i hi;rw [Nat.blt_eq] at this;exact this
theorem q1g {a b:List Nat} (h:toI a=toI b):a=b:=by
 have:=congrArg (List.map Int.toNat) h
 rwa [quj,quj] at this
theorem q56 {m w:List Nat} {T Y:List (List Int)} (h:SkOk (toI m) T) (hk:chk2 m w=true) (hw:w=(qa9 T).map (·.1)) (hv:(qa9 T).map (·.2)=(qa9 Y).map (·.2)) (hY:SkOk [] Y) (hYr:∀ r∈Y,r.length≠0) :
  (stX ((toI m,T,()):SkD)).2.1=0∧((stX ((toI m,T,()):SkD)).1=Y↔usN m w=(qa9 Y).map (·.1)):=by
 obtain ⟨U',hC⟩:=q1x hk;obtain ⟨m',w',f,U,q1,q2,q3,q4,q5,q6,q7,q8,q9,q10,q11,q12,q13⟩:=qvd h;obtain rfl:=q1g q1;obtain rfl:w'=w:=by rw [q3,hw]
 have hUU:U'=U:=by
  have:=hC.str;rw [q9] at this;exact (Option.some.inj this).symm
 subst hUU;obtain ⟨_,e1,_⟩:=qtp (t:=((toI m,T,()):SkD)) h;have hst:stX ((toI m,T,()):SkD)=(mapR f U',0,()):=by
  rw [e1,q8,q09 q5 40 _ U' q9]
 rw [hst];refine ⟨rfl,?_⟩;show mapR f U'=Y↔_;have hlw:w'.length=((qa9 Y).map (·.2)).length:=by rw [hw,← hv];simp
 have hlu:(usN m w').length=((qa9 Y).map (·.2)).length:=by rw [hC.len,hlw]
 have hsT:(w'.zip ((qa9 Y).map (·.2))).Pairwise fun a b=>leW a b=true:=by
  rw [hw,← hv,qf8];exact qco T
 have hsU:=qrb (w:=usN m w') (u:=w') (v:=(qa9 Y).map (·.2)) hlu hlw (fun k hkv=>(hC.des k (by omega)).symm) hsT
 have hfst:=q4q (w:=usN m w') (v:=(qa9 Y).map (·.2)) hlu;have hsnd:=q4t (w:=usN m w') (v:=(qa9 Y).map (·.2)) hlu;have hfW:fW ((usN m w').zip ((qa9 Y).map (·.2)))=f:=by
  rw [q4];exact zcc (by rw [hsnd,hv])
 have hrows:∀ i,(mapR f U').getD i []=rowW ((usN m w').zip ((qa9 Y).map (·.2))) i:=fun i=>by
  rw [← qvk (by rw [hfst];exact hC.lt) i,hfst,hfW,qdu,qdu,← hC.rows,za0]
 constructor
 ·intro he;have:(usN m w').zip ((qa9 Y).map (·.2))=qa9 Y:=quk hsU (qco Y) fun i=>by
   rw [← hrows,he,qe8 (qkx hY)]
  rw [← hfst,this]
 ·intro he;have hz:(usN m w').zip ((qa9 Y).map (·.2))=qa9 Y:=by rw [he,qf8]
  have hg:∀ i,(mapR f U').getD i []=Y.getD i []:=fun i=>by rw [hrows,hz,qe8 (qkx hY)]
  have hlm:(mapR f U').length=U'.length:=by unfold mapR;rw [war]
  have hne:∀ i,i<(mapR f U').length→((mapR f U').getD i []).length≠0:=fun i hi=>by
   rw [qdu,war];unfold rwN;rw [waa,wab (by omega),Option.getD_some]
   exact q11 _ (wav _)
  have hneY:∀ i,i<Y.length→(Y.getD i []).length≠0:=fun i hi=>by
   rw [waa,wab hi,Option.getD_some];exact hYr _ (wav _)
  have hle:(mapR f U').length=Y.length:=by
   rcases Nat.lt_trichotomy (mapR f U').length Y.length with hh | hh | hh
   ·exact absurd (by rw [← hg,getD_none (wae _)];rfl) (hneY _ hh)
   ·exact hh
   ·exact absurd (by rw [hg,getD_none (wae _)];rfl) (hne _ hh)
  refine List.ext_getElem hle fun i h1 h2=>?_
  have:=hg i
  rwa [waa,waa,wab h1,wab h2] at this
theorem q4o {inner:List Int} {T:List (List Int)} {i:Nat} {x:Int}:atF inner T (i:Int) x=atR inner T i x:=by
 unfold atF atR el;rw [wad]
 by_cases h:x<rowF inner (i:Int)
 ·rw [if_pos (.inr h),if_neg (by omega)]
 ·rw [if_neg (by omega)]
  by_cases h2:x<rowF inner (i:Int)+((T.getD i []).length:Int)
  ·rw [if_pos ⟨by omega,h2⟩]
  ·rw [if_neg (by omega),waa (i:=(x-rowF inner (i:Int)).toNat),wac (by omega)];rfl
theorem qoi {m c:List Nat} {T:List (List Int)} (h:∀ i,gN m i+(T.getD i []).length=gN c i):∀ n,sumO (toI m) T n=((c.take n).sum:Nat)
 | 0=>rfl
 | n+1=>by
  rw [sumO,qoi h n];have:=h n;unfold outI;rw [qcw,List.take_add_one,List.sum_append];unfold gN at this ⊢;rw [waa (l:=c)] at this
  cases hc:c[n]? with
  | none =>
   rw [hc] at this;have this:m.getD n 0+(T.getD n []).length=0:=this;show _=(((c.take n).sum+0:Nat):Int);omega
  | some x =>
   rw [hc] at this;have this:m.getD n 0+(T.getD n []).length=x:=this;show _=(((c.take n).sum+(x+0):Nat):Int);omega
theorem q67 {c:List Nat} (n:Nat):(c.take n).sum≤c.sum:=by
 have:=congrArg List.sum (List.take_append_drop n c);rw [List.sum_append] at this;omega
theorem qis {c:List Nat} (h:qad (toI c)=true) (i:Nat):gN c i≤8∧gN c (i+1)≤gN c i:=by
 have:=qaz h i;rw [qcw,qcw] at this;omega
theorem qdg {l:List Nat}:(toI l).length=l.length:=by unfold toI;rw [war]
theorem qtw {l:List Nat} {i:Nat} (h:l.length≤i):gN l i=0:=by
 unfold gN;rw [waa,wac h];rfl
theorem q7k {m c:List Nat} (hm:qad (toI m)=true) (hc:qad (toI c)=true) (hl:m.length≤c.length) {T:List (List Int)}:Tab (toI m) (toI c) 8 T↔SkOk (toI m) T∧T.length=c.length∧∀ i,gN m i+(T.getD i []).length=gN c i:=by
 have hc8:=(qal.1 hc).1;have hcs:=(qal.1 hc).2.2;rw [qdg] at hc8;rw [qju] at hcs;constructor
 ·intro h;have hlen:T.length=c.length:=by rw [h.len,qdg]
  have hrow:∀ i,gN m i+(T.getD i []).length=gN c i:=fun i=>by
   by_cases hi:i<T.length
   ·have:=h.row i hi;rw [qcw,qcw] at this;omega
   ·rw [qtw (by omega),qtw (by omega),getD_none (by omega)];rfl
  have hout:∀ i,outI (toI m) T i=(gN c i:Int):=fun i=>by
   unfold outI;rw [qcw];have:=hrow i;omega
  refine ⟨⟨hm,by rw [qdg];omega,by omega,fun a ha=>⟨?_,?_,fun k hk=>?_,fun k hk h0=>?_,fun k hk h0=>?_⟩⟩,hlen,hrow⟩
  ·rw [hout]
   by_cases h0:a=0
   ·rw [if_pos h0];have:=qis hc a;omega
   ·rw [if_neg h0,hout];have:=(qis hc (a-1)).2;rw [show a-1+1=a by omega] at this
    omega
  ·rw [qoi hrow];have:=q67 (c:=c) (a+1);omega
  ·have hr:T.getD a []∈T:=qg8 ha;have:=h.ent _ hr ((T.getD a []).getD k 0) (qg8 hk);exact this
  ·exact (h.ord a k ha hk).1 h0
  ·have:=(h.ord a k ha hk).2 h0;rw [show (a:Int)-1=((a-1:Nat):Int) by omega,q4o] at this
   exact this
 ·rintro ⟨h,hlen,hrow⟩;refine ⟨by rw [hlen,qdg],fun i hi=>by rw [qcw,qcw];have:=hrow i;omega,fun r hr x hx=>?_,fun i j hi hj=>⟨fun h0=>(h.cnd i hi).row j hj h0,fun h0=>?_⟩⟩
  ·obtain ⟨i,hi,rfl⟩:=List.getElem_of_mem hr;obtain ⟨k,hk,rfl⟩:=List.getElem_of_mem hx;have hg:T.getD i []=T[i]:=by rw [waa,wab hi];rfl
   have:=(h.cnd i hi).ent k (by rw [hg];exact hk)
   unfold el at this;rw [hg,waa,wab hk] at this;exact this
  ·have:=(h.cnd i hi).col j hj h0;rw [show (i:Int)-1=((i-1:Nat):Int) by omega,q4o]
   exact this
theorem qks {T:List (List Int)} {x:Int}:(cnt x T:Int)=cntF T x:=by
 rw [q50];unfold cnt;rw [List.count_eq_countP];congr 1
theorem qoc {T:List (List Int)} {x:Int}:((qa9 T).map (·.2)).count x=cnt x T:=by
 rw [((qfp T).map (·.2)).count_eq,qns];rfl
theorem qp7 {W:List WP} (h:W.Pairwise fun a b=>leW a b=true):(W.map (·.2)).Pairwise (·≤·):=by
 rw [List.pairwise_map];refine h.imp fun {a b} h=>?_
 unfold leW at h;rw [wbn] at h;omega
theorem qpd {l:List Int} {T:List (List Int)} (h:SkOk l T) {x:Int} (hx:x∈T.flatten):1≤x∧x≤8:=by
 obtain ⟨r,hr,hx⟩:=List.mem_flatten.1 hx;obtain ⟨i,hi,rfl⟩:=List.getElem_of_mem hr;obtain ⟨k,hk,rfl⟩:=List.getElem_of_mem hx;have hg:T.getD i []=T[i]:=by rw [waa,wab hi];rfl
 have:=(h.cnd i hi).ent k (by rw [hg];exact hk)
 unfold el at this;rw [hg,waa,wab hk] at this;exact this
theorem qsa {l l':List Int} {T Y:List (List Int)} (hT:SkOk l T) (hY:SkOk l' Y) (h:∀ x,1≤x→x≤8→cnt x T=cnt x Y):(qa9 T).map (·.2)=(qa9 Y).map (·.2):=by
 refine List.Perm.eq_of_pairwise (le:=(·≤·)) (fun a b _ _ h1 h2=>Int.le_antisymm h1 h2) (qp7 (qco T)) (qp7 (qco Y)) (List.perm_iff_count.2 fun x=>?_)
 rw [qoc,qoc]
 by_cases hx:1≤x∧x≤8
 ·exact h x hx.1 hx.2
 ·unfold cnt;rw [List.count_eq_zero.2 fun hq=>hx (qpd hT hq),List.count_eq_zero.2 fun hq=>hx (qpd hY hq)]
theorem qjw {W:List WP} {T:List (List Int)} (h:W.Perm (qg1 0 T)):(W.map (·.2)).Perm T.flatten:=by
 have:=h.map (·.2)
 rwa [qns] at this
theorem q2o {l:List Int} {S:List (List Int)} {K a:Nat} (ha:a<K) (h:CondR l S a):CondR l (S.take K) a:=by
 have hg:∀ i,i≤a→(S.take K).getD i []=S.getD i []:=fun i hi=>by
  rw [waa,wa1,if_pos (by omega),waa]
 have ho:∀ i,i≤a→outI l (S.take K) i=outI l S i:=fun i hi=>by unfold outI;rw [hg i hi]
 have hs:∀ n,n≤a+1→sumO l (S.take K) n=sumO l S n:=by
  intro n
  induction n with
  | zero=>intro _;rfl
  | succ n ih=>intro hn;rw [sumO,sumO,ih (by omega),ho n (by omega)]
 have he:∀ i k,i≤a→el (S.take K) i k=el S i k:=fun i k hi=>by unfold el;rw [hg i hi]
 refine ⟨?_,by rw [hs _ (wae _)];exact h.sum,fun k hk=>?_,fun k hk h0=>?_,fun k hk h0=>?_⟩
 ·rw [ho a (wae _)]
  by_cases h0:a=0
  ·have:=h.le;rwa [if_pos h0] at this ⊢
  ·have:=h.le;rw [if_neg h0] at this ⊢;rw [ho (a-1) (by omega)];exact this
 ·rw [hg a (wae _)] at hk;rw [he a k (wae _)];exact h.ent k hk
 ·rw [hg a (wae _)] at hk;rw [he a k (wae _),he a (k-1) (wae _)];exact h.row k hk h0
 ·rw [hg a (wae _)] at hk;have:=h.col k hk h0;rw [he a k (wae _)];unfold atR at this ⊢;rw [hg (a-1) (by omega),he (a-1) _ (by omega)]
  exact this
theorem qv3:∀ {l:List Int},(∀ x∈l,1≤x∧x≤8)→((List.range 8).map fun (k:Nat)=>l.count ((k:Int)+1)).sum=l.length
 | [],_=>by decide
 | x::l,h=>by
  have ih:=qv3 (l:=l) fun y hy=>h y (wan _ hy)
  have hx:=h x (wa7 ..);have e:∀ f:Nat→Nat,((List.range 8).map f).sum=f 0+(f 1+(f 2+(f 3+(f 4+(f 5+(f 6+(f 7+0))))))):=fun f=>rfl
  rw [e] at ih ⊢;simp only [List.count_cons,wbf]
  rcases (by omega:x=1∨x=2∨x=3∨x=4∨x=5∨x=6∨x=7∨x=8) with rfl | rfl | rfl | rfl | rfl | rfl | rfl | rfl<;>simp at ih ⊢<;>omega
def qdi (Y:List (List Int)):List Int:=(List.range 8).map fun (k:Nat)=>cntF Y ((k:Int)+1)
theorem qum {Y:List (List Int)} {x:Int} (h1:1≤x) (h8:x≤8):(qdi Y).getD (x-1).toNat 0=cnt x Y:=by
 unfold qdi;rw [waa,waq,wa0 (by omega)]
 show cntF Y (((x-1).toNat:Int)+1)=_;rw [show (((x-1).toNat:Int)+1)=x by omega,qks]
theorem qxo {m c:List Nat} {T:List (List Int)} (hl:m.length≤c.length) (hT:T.length=c.length) (h:∀ i,gN m i+(T.getD i []).length=gN c i):m.sum+T.flatten.length=c.sum:=by
 have h1:=qoi h T.length;have h2:=qwf (l:=toI m) (R:=T) T.length;rw [wal (by rw [qdg];omega),wbl,qju] at h2
 rw [wal (by omega)] at h1
 rw [qnd];omega
theorem q6g {m c:List Nat} {Y T:List (List Int)} {n:Nat} (hm:qad (toI m)=true) (hc:qad (toI c)=true) (hl:m.length≤c.length) (hle:∀ i,gN m i≤gN c i) (hY:SkOk [] Y) (hn:m.sum+n=c.sum) (hYn:Y.flatten.length=n) :
  T∈fil (toI m) (toI c) 8 false 81 (qdi Y) []↔(SkOk (toI m) T∧T.length=c.length∧∀ i,gN m i+(T.getD i []).length=gN c i)∧∀ x:Int,1≤x→x≤8→cnt x T=cnt x Y:=by
 have hc8:=(qal.1 hc).1;have hcs:=(qal.1 hc).2.2;have hm8:=(qal.1 hm).1;rw [qdg] at hc8;rw [qju] at hcs;have hcn:∀ x,cnt x Y≤8:=fun x=>by
  have:cnt x Y≤Y.flatten.length:=List.count_le_length;omega
 have hpre:preM 81 (toI m) (toI c) (qdi Y) 8 false []:=by
  refine ⟨hm8,by rw [qdg];exact hc8,fun i=>by rw [qcw];omega,fun i=>by rw [qcw];have:=(qis hc i).1;omega,fun i=>by rw [qcw,qcw];have:=(qis hc i).2;omega,fun i=>by rw [qcw,qcw];have:=hle i;omega,Nat.zero_le _,fun i hi=>(by simp at hi),fun i hi=>(by simp at hi),fun r hr=>(by cases hr),⟨by omega,by omega⟩,fun _=>⟨by unfold qdi;simp,fun x hx=>?_⟩,by rw [qdg];simp;omega⟩
  obtain ⟨k,hk,rfl⟩:=List.mem_map.1 hx;rw [← qks];have:=hcn ((k:Int)+1);omega
 have hsum:sumN (qdi Y)=n:=by
  rw [← hYn,← qv3 (l:=Y.flatten) fun x hx=>qpd hY hx]
  unfold sumN qdi;rw [List.map_map];congr 1;refine List.map_congr_left fun k _=>?_
  show (cntF Y ((k:Int)+1)).toNat=_;rw [← qks,wad];rfl
 rw [qsb (N:=n) hpre (fun i j hi=>by simp at hi) (fun _=>⟨fun T hT=>?_,by simp [hsum]⟩),q7k hm hc hl]
 ·constructor
  ·rintro ⟨h1,_,h3⟩;refine ⟨h1,fun x hx hx8=>?_⟩
   have:=h3 rfl x hx hx8;rw [qum hx hx8] at this;have e:cnt x ([]:List (List Int))=0:=rfl;omega
  ·rintro ⟨h1,h3⟩;refine ⟨h1,.nil _,fun _ x hx hx8=>?_⟩
   rw [qum hx hx8];have e:cnt x ([]:List (List Int))=0:=rfl;have:=h3 x hx hx8;omega
 ·obtain ⟨k1,k2,k3⟩:=(q7k hm hc hl).1 hT;have:=qxo hl k2 k3;omega
theorem q5m {A B:List (List Int)} (hl:A.length=B.length) (h:∀ i,A.getD i []=B.getD i []):A=B:=by
 refine List.ext_getElem hl fun i h1 h2=>?_
 have:=h i
 rwa [waa,waa,wab h1,wab h2] at this
theorem qwr {m c b:List Nat} {Y:List (List Int)} {n:Nat} (hm:qad (toI m)=true) (hc:qad (toI c)=true) (hl:m.length≤c.length) (hle:∀ i,gN m i≤gN c i) (hY:SkOk [] Y) (hYr:∀ r∈Y,r.length≠0) (hn:m.sum+n=c.sum) (hb:b=Y.map List.length) (hbP:b∈P n) (hbs:b.sum=n) (ht:tb2 n m c=true) :
  ((fil (toI m) (toI c) 8 false 81 (qdi Y) []).countP (qlp (toI m) Y):Int)=refR (toI m) (toI b) (toI c):=by
 have hYn:Y.flatten.length=n:=by rw [qnd,← hb,hbs]
 have hc8:=(qal.1 hc).1;rw [qdg] at hc8;have memF:=fun T=>q6g (T:=T) hm hc hl hle hY hn hYn
 have hsub:subN m c=true:=List.all_eq_true.2 fun i _=>Nat.ble_eq_true_of_le (hle i)
 unfold tb2 tb3 at ht;rw [hsub,wbs,wbc] at ht;obtain ⟨ht1,ht2⟩:=ht;have hL:∀ w∈wdN m c n [],chk2 m w=true∧∀ i,i<8→outW m w i=gN c i:=fun w hw=>by
  have:=List.all_eq_true.1 ht1 w hw;rw [wbc] at this;exact ⟨this.1,fun i hi=>waj (List.all_eq_true.1 this.2 i (List.mem_range.2 hi))⟩
 have hwl:(qa9 Y).length=n:=by rw [(qfp Y).length_eq,qj5,← hb,hbs]
 have hu:(qa9 Y).map (·.1)∈wdN [] b n []:=by
  have hv:=(qlt (m:=[]) hY).1;have:=qv6 (m:=[]) (c:=b) n [] _ hv (by rw [war,hwl]) (fun i=>by
   rw [wbu];unfold outW;rw [qgs,qe8 (qkx hY),hb];unfold gN;rw [qwm];have:([]:List Nat).getD i 0=0:=rfl;omega)
  exact this
 have htab:=of_decide_eq_true (List.all_eq_true.1 (List.all_eq_true.1 ht2 b hbP) _ hu);rw [← htab];congr 1;have hvl:((qa9 Y).map (·.2)).length=n:=by rw [war,hwl]
 have hleaf:∀ T,SkOk (toI m) T→T.length=c.length→(∀ i,gN m i+(T.getD i []).length=gN c i)→(∀ x:Int,1≤x→x≤8→cnt x T=cnt x Y)→(qa9 T).map (·.1)∈wdN m c n []∧(qlp (toI m) Y T=true↔usN m ((qa9 T).map (·.1))=(qa9 Y).map (·.1)):=fun T h1 h2 h3 h4=>by
  have hlT:(qa9 T).length=n:=by
   rw [(qfp T).length_eq,qj5,← qnd];have:=qxo hl h2 h3;omega
  have hw:(qa9 T).map (·.1)∈wdN m c n []:=by
   have:=qv6 (m:=m) (c:=c) n [] _ (qlt h1).1 (by rw [war,hlT]) (fun i=>by
    rw [wbu];unfold outW;rw [qgs,qe8 (qkx h1)];have:=h3 i;omega)
   exact this
  refine ⟨hw,?_⟩;obtain ⟨k1,k2⟩:=q56 h1 (hL _ hw).1 rfl (qsa h1 hY h4) hY hYr;have htT:tabF T=T:=q25 (by omega) fun r hr=>by
   have:=(BedR.ok (qq8 h1)).2.2 r hr;obtain ⟨i,hi,rfl⟩:=List.getElem_of_mem hr;have hg:=h3 i;rw [waa,wab hi,Option.getD_some] at hg;have:=(qis hc i).1;omega
  unfold qlp;rw [htT,k1];simp only [decide_true,wb1,wbn];exact k2
 have nd1:(((fil (toI m) (toI c) 8 false 81 (qdi Y) []).filter (qlp (toI m) Y)).map fun T=>(qa9 T).map (·.1)).Nodup:=by
  refine List.pairwise_map.2 ((qh3.filter _).imp_of_mem fun {T1 T2} m1 m2 hne he=>hne ?_)
  obtain ⟨⟨a1,a2,a3⟩,a4⟩:=(memF T1).1 (List.mem_filter.1 m1).1;obtain ⟨⟨b1,b2,b3⟩,b4⟩:=(memF T2).1 (List.mem_filter.1 m2).1;have e1:qa9 T1=qa9 T2:=by
   rw [← qf8 (qa9 T1),← qf8 (qa9 T2),he,qsa a1 hY a4,qsa b1 hY b4]
  refine q5m (by omega) fun i=>?_
  rw [← qe8 (qkx a1),← qe8 (qkx b1),e1]
 have nd2:((wdN m c n []).filter fun w=>decide (usN m w=(qa9 Y).map (·.1))).Nodup:=(qyg n []).sublist List.filter_sublist
 have hp:=(List.perm_ext_iff_of_nodup nd1 nd2).2 fun w=>by
  rw [List.mem_map,waz,wbn];constructor
  ·rintro ⟨T,hT,rfl⟩;obtain ⟨hF,hlf⟩:=List.mem_filter.1 hT;obtain ⟨⟨a1,a2,a3⟩,a4⟩:=(memF T).1 hF;obtain ⟨h1,h2⟩:=hleaf T a1 a2 a3 a4;exact ⟨h1,h2.1 hlf⟩
  ·rintro ⟨hw,hus⟩;obtain ⟨hk,hout⟩:=hL w hw;obtain ⟨U,hC⟩:=q1x hk;obtain ⟨w',e1,hlw,hvw⟩:=qvx n [] w hw;rw [wbu] at e1;subst e1;have hl1:w.length=((qa9 Y).map (·.2)).length:=by rw [hvl,hlw]
   have hfst:=q4q hl1;have hsnd:=q4t hl1;have hs:(w.zip ((qa9 Y).map (·.2))).Pairwise fun a b=>leW a b=true:=qrb (u:=(qa9 Y).map (·.1)) hl1 (by rw [war,war]) (fun k hkv=>by
    have:=hC.des k (by omega)
    rwa [hus] at this) (by rw [qf8];exact qco Y)
   have hE:∀ a∈w.zip ((qa9 Y).map (·.2)),1≤a.2∧a.2≤8:=fun a ha=>by
    have h1:a.2∈(qa9 Y).map (·.2):=by rw [← hsnd];exact List.mem_map.2 ⟨a,ha,rfl⟩
    exact qpd hY ((qjw (qfp Y)).mem_iff.1 h1)
   have hF:=zbe hs hE;rw [hfst] at hF;have hzl:(w.zip ((qa9 Y).map (·.2))).length=w.length:=by rw [List.length_zip];omega
   rw [hzl] at hF;have hS:SkOk (toI m) (mapR (fW (w.zip ((qa9 Y).map (·.2)))) (qeh w)):=zap hF hC.ok;have hw8:∀ i∈w,i<8:=by
    have:∀ (u v:List Nat),qkp m v u→∀ i∈u,i<8:=by
     intro u
     induction u with
     | nil=>intro v _ i hi;cases hi
     | cons a u ih =>
      intro v hv i hi
      rcases List.mem_cons.1 hi with rfl | hi
      ·exact hv.1.1
      ·exact ih _ hv.2 i hi
    exact this w [] hvw
   have hrw:∀ i,(mapR (fW (w.zip ((qa9 Y).map (·.2)))) (qeh w)).getD i []=rowW (w.zip ((qa9 Y).map (·.2))) i:=fun i=>by
    have:=qvk (W:=w.zip ((qa9 Y).map (·.2))) (by rw [hfst];exact hw8) i
    rwa [hfst] at this
   have hlenS:(mapR (fW (w.zip ((qa9 Y).map (·.2)))) (qeh w)).length=8:=by unfold mapR qeh;simp
   have hrl:∀ i,gN m i+(rowW (w.zip ((qa9 Y).map (·.2))) i).length=gN c i:=fun i=>by
    have h1:=qgs (w.zip ((qa9 Y).map (·.2))) i;rw [hfst] at h1
    by_cases hi:i<8
    ·have:=hout i hi;unfold outW at this;omega
    ·rw [qxe (by rw [hfst];exact hw8) (by omega),qtw (l:=c) (by omega),qtw (l:=m) (by omega)];rfl
   generalize hSd:mapR (fW (w.zip ((qa9 Y).map (·.2)))) (qeh w)=S at hS hrw hlenS;have hg:∀ i,(S.take c.length).getD i []=rowW (w.zip ((qa9 Y).map (·.2))) i:=fun i=>by
    by_cases hi:i<c.length
    ·rw [waa,wa1,if_pos hi,← waa,hrw]
    ·have h2:=hrl i;rw [qtw (l:=c) (by omega)] at h2
     rw [getD_none (by rw [wao];omega)]
     exact (wb5 (by omega)).symm
   have hTl:(S.take c.length).length=c.length:=by rw [wao];omega
   have hTk:SkOk (toI m) (S.take c.length):=⟨hm,by rw [hTl,qdg];exact hl,by omega,fun a ha=>q2o (by omega) (hS.cnd a (by rw [wao] at ha;omega))⟩
   have hTrow:∀ i,gN m i+((S.take c.length).getD i []).length=gN c i:=fun i=>by rw [hg];exact hrl i
   have hperm:(w.zip ((qa9 Y).map (·.2))).Perm (qg1 0 (S.take c.length)):=qva fun i=>by
    rw [qit,if_pos (Nat.zero_le _),Nat.sub_zero,hg]
   have hcnt:∀ x:Int,1≤x→x≤8→cnt x (S.take c.length)=cnt x Y:=fun x _ _=>by
    have h1:=(qjw hperm).count_eq x;rw [hsnd,qoc] at h1;exact h1.symm
   have hword:qa9 (S.take c.length)=w.zip ((qa9 Y).map (·.2)):=quk (qco _) hs fun i=>by
    rw [qe8 (qkx hTk),hg]
   obtain ⟨h1,h2⟩:=hleaf _ hTk hTl hTrow hcnt;rw [hword,hfst] at h1 h2;exact ⟨S.take c.length,List.mem_filter.2 ⟨(memF _).2 ⟨⟨hTk,hTl,hTrow⟩,hcnt⟩,h2.2 hus⟩,by rw [hword,hfst]⟩
 have h1:=hp.length_eq;rw [war,← wce,← wce] at h1;rw [h1];unfold cntU;rw [List.countP_map];rfl
theorem qoy:∀ p∈allP,p.sum<9∧p∈P p.sum:=by decide +kernel
theorem q5u {k n:Nat} (hn:n≤6) (hk:k+n≤8):tabS k n=true:=by
 rcases (by omega:n=0∨n=1∨n=2∨n=3∨n=4∨n=5∨n=6) with rfl | rfl | rfl | rfl | rfl | rfl | rfl
 ·exact List.all_eq_true.1 zbk k (List.mem_range.2 (by omega))
 ·exact List.all_eq_true.1 za3 k (List.mem_range.2 (by omega))
 ·exact List.all_eq_true.1 zbi k (List.mem_range.2 (by omega))
 ·exact List.all_eq_true.1 zci k (List.mem_range.2 (by omega))
 ·exact List.all_eq_true.1 zcs k (List.mem_range.2 (by omega))
 ·exact List.all_eq_true.1 zcf k (List.mem_range.2 (by omega))
 ·rcases (by omega:k=0∨k=1∨k=2) with rfl | rfl | rfl
  ·exact q87
  ·exact q83
  ·exact zac
def bF (t:List (List Int)):List Int:=t.map fun r=>(r.length:Int)
theorem zdf {t:List (List Int)}:bF t=toI (t.map List.length):=by
 unfold bF toI;rw [List.map_map];rfl
theorem q9h {t:List (List Int)} (h20:t.length≤20) (h:qd4 t=true):SkOk [] t∧∀ r∈t,r.length≠0:=by
 unfold qd4 at h;rw [wbc,Bool.not_eq_true',List.any_eq_false] at h;refine ⟨(q9t h20).1 h.2,fun r hr h0=>h.1 r hr ?_⟩
 unfold mtB;rw [h0];rfl
theorem zaq {L:Nat} (h:0<L):List.replicate L ([]:List Int)=pad L ([]++[[]]):=by
 unfold pad;obtain ⟨k,rfl⟩:∃ k,L=k+1:=⟨L-1,by omega⟩
 simp [List.replicate_succ]
theorem q8u {a c:List Int} {Y:List (List Int)} {left:List Int} (hL:c.length≤8) (h0:∀ k,a.getD k 0≤c.getD k 0) (h1:∀ k,0≤a.getD k 0) (h8:∀ k,c.getD k 0≤8) (hll:left.length=8) :
  skF a c Y 81 left (List.replicate c.length []) 0=((fil a c 8 false 81 left []).countP (qlp a Y):Int):=by
 have hfull:full a c []=true:=rfl;rw [fil,hfull,if_pos rfl]
 by_cases hc:c.length=0
 ·rw [if_pos (by rw [hc];rfl),qxu,if_pos (by omega),hc]
  show _=(([[]].countP (qlp a Y):Nat):Int);rw [List.countP_cons,List.countP_nil];show (if qlp a Y []=true then (1:Int) else 0)=_
  split<;>simp
 ·rw [if_neg (by simp;omega),zaq (by omega)]
  exact qw0 hL h0 h1 h8 80 81 left [] [] hll (by simp;omega) (by simpa using h0 0) (by simp;omega) (by simp;omega)
theorem q48 {a c:List Int} {t:List (List Int)} (ha:qad a=true) (hc:qad c=true) (h20:t.length≤20) (hf:qd4 t=true) (hb:qad (bF t)=true) (he:boxW a+boxW (bF t)=boxW c) (hl:a.length≤c.length) (hle:∀ i,a.getD i 0≤c.getD i 0) (h6:boxW c-boxW a≤6) :
  preSk 81 a c t (qdi t) (List.replicate c.length []) 0∧skF a c t 81 (qdi t) (List.replicate c.length []) 0≤500000000∧skF a c t 81 (qdi t) (List.replicate c.length []) 0=qjo a (bF t) c:=by
 obtain ⟨m,hmA,rfl,hm8,_,hms⟩:=qef ha;obtain ⟨d,hdA,rfl,hd8,_,hds⟩:=qef hc;obtain ⟨b,hbA,ebt,hb8,_,hbs⟩:=qef hb;have hbt:b=t.map List.length:=by rw [zdf] at ebt;exact (q1g ebt).symm
 rw [ebt] at he hb ⊢;rw [ql5 hm8.len hms,ql5 hd8.len hds,ql5 hb8.len hbs] at he;rw [ql5 hm8.len hms,ql5 hd8.len hds] at h6;obtain ⟨hY,hYr⟩:=q9h h20 hf;rw [qdg,qdg] at hl;have hle':∀ i,gN m i≤gN d i:=fun i=>by
  have:=hle i;rw [qhz,qhz] at this;show m.getD i 0≤d.getD i 0;omega
 have hn:m.sum+b.sum=d.sum:=by omega
 have hT:=List.all_eq_true.1 (List.all_eq_true.1 (q5u (k:=m.sum) (n:=b.sum) (by omega) (by omega)) m (qoy m hmA).2) d (by rw [hn];exact (qoy d hdA).2)
 have hcount:=qwr ha hc hl hle' hY hYr hn hbt (qoy b hbA).2 rfl hT;have h1:∀ k,0≤(toI m).getD k 0:=fun k=>by rw [qhz];omega
 have h8:∀ k,(toI d).getD k 0≤8:=fun k=>by rw [qhz];have:=(qis hc k).1;unfold gN at this;omega
 have hll:(qdi t).length=8:=by unfold qdi;simp
 have htop:=q8u (Y:=t) (left:=qdi t) (by rw [qdg];exact hd8.len) hle h1 h8 hll
 have hYn:t.flatten.length=b.sum:=by rw [qnd,← hbt]
 have hc8:∀ x∈qdi t,0≤x∧x≤8:=fun x hx=>by
  obtain ⟨k,hk,rfl⟩:=List.mem_map.1 hx;rw [← qks];have:cnt ((k:Int)+1) t≤t.flatten.length:=List.count_le_length;omega
 have hsum:sumN (qdi t)=b.sum:=by
  rw [← hYn,← qv3 (l:=t.flatten) fun x hx=>qpd hY hx]
  unfold sumN qdi;rw [List.map_map];congr 1;refine List.map_congr_left fun k _=>?_
  show (cntF t ((k:Int)+1)).toNat=_;rw [← qks,wad];rfl
 have hbig:((fil (toI m) (toI d) 8 false 81 (qdi t) []).countP (qlp (toI m) t):Int)≤500000000:=by
  have k1:=qrl (inner:=toI m) (outer:=toI d) (most:=8) (by omega) 81 (qdi t) [] (by rw [hll];rfl) (fun x hx=>(hc8 x hx).1)
  have k2:(fil (toI m) (toI d) 8 false 81 (qdi t) []).countP (qlp (toI m) t)≤(fil (toI m) (toI d) 8 false 81 (qdi t) []).length:=List.countP_le_length;rw [hsum] at k1;have k3:8 ^ b.sum≤8 ^ 6:=Nat.pow_le_pow_right (by omega) (by omega)
  have k4:(8:Nat) ^ 6=262144:=by decide
  omega
 refine ⟨?_,by rw [htop];exact hbig,by rw [htop,hcount];exact qyi ⟨ha,hb,hc⟩⟩
 have o8:∀ {l:List Nat},qad (toI l)=true→okLs (toI l):=fun {l} h=>⟨(qal.1 h).1,fun x hx=>by have:=qby h x hx;omega⟩
 have hrep:∀ q,((List.replicate (toI d).length ([]:List Int)).getD q []).length=0:=fun q=>by
  rw [waa,wa6];split<;>rfl
 refine ⟨o8 ha,o8 hc,by rw [qdg,qdg];exact hl,hle,by rw [wax],⟨by omega,by omega⟩,fun q=>?_,⟨hll,fun x hx=>by have:=hc8 x hx;omega⟩,?_⟩
 ·rw [hrep];have:=hle q;omega
 ·rw [hrep,qdg];have:=hd8.len;show 9*(d.length-0)+(8-0)<81;omega
theorem qu1 {a b c:List Int} {i:Nat} (hi:i<a.length) (h:c.getD i 0<a.getD i 0):qjo a b c=0:=by
 unfold qjo;rw [if_neg];intro hq;unfold insB at hq;have:=of_decide_eq_true (List.all_eq_true.1 hq i (List.mem_range.2 hi));rw [qba] at this;omega
theorem qxy {t:List (List Int)}:(bF t).length=t.length:=by unfold bF;rw [war]
theorem qpf {t:List (List Int)}:(qdi t).length=8:=by unfold qdi;simp
set_option maxHeartbeats 4000000 in
theorem zck:q5r.goal Try.prog (spS [qmj,qmq 81] [qs5,qz1,q0t,q0c,qvj,qzu,qzt]) q8q [] lm30:=by
 have e:(∀ (a c:List Int) (rows:List (List Int)),(small a∧small c∧small rows)→g13 a c rows=some (true,()))=q5r.goal Try.prog (spS [qmj,qmq 81] [qs5,qz1,q0t,q0c,qvj,qzu,qzt]) q8q [] lm30:=by kernel_rfl
 rw [← e];rintro a c rows ⟨sa,sc,sr⟩;unfold g13;rw [qab sr,qab rfl];have t12:(tabF rows).length≤12:=qv5;have hr12:∀ r∈tabF rows,r.length≤12:=fun r hr=>q88 (r:=rows) hr
 generalize htd:tabF rows=t at *;have okt:okL2 t:=⟨by omega,fun r hr=>by have:=hr12 r hr;omega⟩
 refine qd0 (fun (i:Nat)=>(((i:Int),(bF t).take i,()):Int×List Int×Unit)) t.length _ (fun i hi=>?_) ?_
 ·have hw:wr .i64 ((i:Int)+1)=((i+1:Nat):Int):=qam (by omega)
  have hg:(bF t).getD i 0=((t.getD i []).length:Int):=by
   unfold bF;rw [waa,waq,wab hi,waa,wab hi];rfl
  have hlen:((bF t).take i).length=i:=by rw [wao,qxy];omega
  simp only [qak.2 (show (i:Int)<(t.length:Int) by omega),wbs,wad,wbl,hw,wae,qac]
  rw [qab ⟨by omega,by omega⟩,qab (by omega),qab (by simp),qha (by rw [qxy];exact hi) 0,hg]
 ·have hbt:(bF t).take t.length=bF t:=wal (by rw [qxy];omega)
  simp only [qag.2 (waw _),wbr,hbt,qac];have hb12:(bF t).length≤12:=by rw [qxy];exact t12
  have hbtk:(bF t).take 12=bF t:=wal hb12;refine qd0 (fun (i:Nat)=>((((i:Int)+1),bF t,(qdi t).take i,()):Int×List Int×List Int×Unit)) 8 _ (fun i hi=>?_) ?_
  ·have hw:wr .i64 ((i:Int)+1+1)=((i+1:Nat):Int)+1:=(qam (by omega)).trans (by omega)
   have hg:(qdi t).getD i 0=cntF t ((i:Int)+1):=by
    unfold qdi;rw [waa,waq,wa0 hi];rfl
   have hlen:((qdi t).take i).length=i:=by rw [wao,qpf];omega
   simp only [qd9.2 (show (i:Int)+1≤8 by omega),wbs,wbl,hw,wae,qac]
   rw [qab okt,qab (by omega),qab (by simp),qha (by rw [qpf];exact hi) 0,hg]
  ·have hlt:(qdi t).take 8=qdi t:=wal (by rw [qpf];omega)
   simp only [qdn.2 (show (8:Int)<((8:Nat):Int)+1 by omega),wbr,hlt,qac,wbj,wcb,wbl,hbtk,wae]
   rw [qab ⟨by rw [wao];omega,by omega,by rw [wao];omega⟩]
   unfold q7y q7n qbo qiy;simp only [htd,wcb,wbl,hbtk];have i0:ieq 0 0=true:=rfl;have i2:ieq 2 2=true:=rfl;have i20:ieq 2 0=false:=rfl
   by_cases hsh:qad (a.take 12)=true∧qad (bF t)=true∧qad (c.take 12)=true
   ·have hrg:qr8 (a.take 12) (bF t) (c.take 12)=(qjo (a.take 12) (bF t) (c.take 12),0,()):=by unfold qr8;rw [if_pos hsh]
    simp only [hrg,i0,wbi,wbh,wbr,wbs,qac,wbp,true_and,and_true,wbb,wbo,wbq,wbe];rw [qab okt]
    cases hf:qd4 t with
    | false=>simp [qac,i0]
    | true =>
     simp only [wbi,wbh,wbr,wbs,qac,wbp,true_and,and_true,wbb,wbo,wbq,wbe];rw [qab sa]
     cases ha:qad a with
     | false=>simp [qac,i0]
     | true =>
      simp only [wbi,wbh,wbr,wbs,qac,wbp,true_and,and_true,wbb,wbo,wbq,wbe];rw [qab sc]
      cases hc:qad c with
      | false=>simp [qac,i0]
      | true =>
       have ha8:=(qal.1 ha).1;have hc8:=(qal.1 hc).1;have hat:a.take 12=a:=wal (by omega)
       have hct:c.take 12=c:=wal (by omega)
       rw [hat,hct] at *;have xa:=qgn ha;have xb:=qgn hsh.2.1;have xc:=qgn hc;have w1:wr .i64 (boxW c-boxW a)=boxW c-boxW a:=qam (by omega)
       have w2:wr .i64 (boxW a+boxW (bF t))=boxW a+boxW (bF t):=qam (by omega)
       simp only [wbi,wbh,wbr,wbs,qac,wbp,true_and,and_true,wbb,wbo,wbq,wbe,w1,w2];rw [qab (by omega),qab (by omega)]
       cases h6:ilt 6 (boxW c-boxW a) with
       | true=>simp [qac,i0]
       | false =>
        have h6':=qag.1 h6;simp only [wbr];rw [qab (by omega),qab (by omega),qab (by omega)]
        by_cases he:boxW a+boxW (bF t)=boxW c
        ·rw [qcb.2 he];simp only [wbi,wbh,wbr,wbs,qac,wbp,true_and,and_true,wbb,wbo,wbq,wbe]
         by_cases hl:a.length≤c.length
         ·rw [qag.2 (by omega),wbr]
          refine qdx (fun s:Int×List Int×Unit=>∃ i:Nat,s=((i:Int),qdi t,())∧i≤a.length∧∀ j,j<i→a.getD j 0≤c.getD j 0) (fun s:Int×List Int×Unit=>a.length-s.1.toNat) (fun _=>Lp.out (Lp.out (true,()))) ?_ _ ⟨0,rfl,Nat.zero_le _,fun j hj=>absurd hj (wby j)⟩
          rintro _ ⟨i,rfl,hi,hall⟩;simp only [wad]
          by_cases hia:i<a.length
          ·rw [qak.2 (show (i:Int)<(a.length:Int) by omega),wbs,qab ⟨by omega,by omega⟩,qab ⟨by omega,by omega⟩]
           by_cases hlt2:c.getD i 0<a.getD i 0
           ·refine .inl ?_;rw [qak.2 hlt2,wbs,qu1 hia hlt2];simp [qac,i0]
           ·refine .inr ⟨(((i+1:Nat):Int),qdi t,()),?_,⟨i+1,rfl,by omega,fun j hj=>?_⟩,?_,by first | rfl | trivial⟩
            ·rw [qag.2 (by omega),wbr,show wr .i64 ((i:Int)+1)=((i+1:Nat):Int) from qam (by omega)]
             first | done | simp [qac]
            ·by_cases hj2:j=i
             ·subst hj2;omega
             ·exact hall j (by omega)
            ·rw [wad];omega
          ·refine .inl ?_;rw [qag.2 (show (a.length:Int)≤(i:Int) by omega),wbr]
           have hle:∀ j,a.getD j 0≤c.getD j 0:=fun j=>by
            by_cases hj:j<a.length
            ·exact hall j (by omega)
            ·rw [waa (l:=a),wac (by omega)]
             show (0:Int)≤_;have hc0:=(qaz hc j).1;rw [qba] at hc0;exact hc0
           obtain ⟨p1,p2,p3⟩:=q48 ha hc (by omega) hf hsh.2.1 he hl hle h6'
           unfold qy5;simp only [htd,wcb,wbl,wbj,wae,qac,wax];have htr:(List.replicate c.length ([]:List Int)).take c.length=List.replicate c.length []:=wal (by rw [wax];omega)
           rw [htr,qab ⟨by omega,by omega,by omega⟩,qab ⟨p1,p2⟩]
           have p3':skF a c t 81 (qdi t) (List.replicate c.length []) (0:Int).toNat=qjo a (bF t) c:=p3;rw [p3,qcb.2 rfl];simp [qac]
         ·rw [qak.2 (by omega),wbs]
          have:qjo a (bF t) c=0:=by
           have hcz:c.getD c.length 0=0:=by rw [waa,wac (wae _)];rfl
           have hap:=qby ha (a.getD c.length 0) (qg8 (by omega))
           exact qu1 (i:=c.length) (by omega) (by omega)
          rw [this];simp [qac,i0]
        ·rw [qa5.2 he];rw [q43 ⟨ha,hsh.2.1,hc⟩ he];simp [qac,i0]
   ·have hrg:qr8 (a.take 12) (bF t) (c.take 12)=(0,2,()):=by unfold qr8;rw [if_neg hsh]
    simp [hrg,i20,i2,qac]
theorem ok13:q5r.Ok Try.prog:=Con.of_goalS qb4 (okC ok32 (okC ok36 (okC ok53 (okC ok34 (okC ok22 (okC ok37 (okC ok24 okN))))))) (okS zb5 (okS (ok58 81) okS0)) q5r zck
end
end Go.Schur
