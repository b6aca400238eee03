/- Slides: contracts. -/
import Derived.Test.YtobghbapmlnmoaaXR
set_option linter.unusedVariables false
set_option linter.unusedSimpArgs false
namespace Go.Schur
noncomputable section
open Go Go.Ab Go.Proofs
def crnB (l:List Int) (row:Int):Bool:=decide (0≤row∧row<(l.length:Int)∧rowF l (row+1)<rowF l row)
def qus (n:Nat) (rows:List (List Int)):Nat→Nat
 | 0=>0
 | m+1=>if n<m+1∧(rows.getD m []).length=0 then qus n rows m else m+1
def qml (s:SkD):SkD:=(qbd s.1,s.2.1.take (qus (qbd s.1).length s.2.1 s.2.1.length),())
def atX (inner:List Int) (rows:List (List Int)) (i:Nat) (j:Int):Int:=if 0≤j-rowF inner i∧j-rowF inner i<((rows.getD i []).length:Int) then el rows i (j-rowF inner i).toNat else 0
def slR (inner:List Int):Nat→List (List Int)→Nat→Int→List (List Int)
 | 0,rows,_,_=>rows
 | n+1,rows,i,j=>if atX inner rows i (j+1)=0∧atX inner rows (i+1) j=0 then rows.set i ((rows.getD i []).take (j-rowF inner i).toNat) else
   if 0<atX inner rows (i+1) j∧(atX inner rows i (j+1)=0∨atX inner rows (i+1) j≤atX inner rows i (j+1)) then slR inner n (rows.set i ((rows.getD i []).set (j-rowF inner i).toNat (atX inner rows (i+1) j))) (i+1) j
   else slR inner n (rows.set i ((rows.getD i []).set (j-rowF inner i).toNat (atX inner rows i (j+1)))) i (j+1)
structure BedR (inner:List Int) (rows:List (List Int)):Prop where
 shp:qad inner=true
 len:inner.length≤rows.length
 l20:rows.length≤20
 dec:∀ i:Nat,outI inner rows (i+1)≤outI inner rows i
 o8:outI inner rows 0≤8
 ent:∀ i j:Nat,j<(rows.getD i []).length→1≤el rows i j∧el rows i j≤8
def sldR (s:SkD) (row:Int):SkD:=qml (s.1.set row.toNat (s.1.getD row.toNat 0-1),slR (s.1.set row.toNat (s.1.getD row.toNat 0-1)) 40 (s.2.1.set row.toNat (0::s.2.1.getD row.toNat [])) row.toNat (s.1.getD row.toNat 0-1),())
def strG:Nat→SkD→SkD
 | 0,s=>s
 | n+1,s=>if s.1.length=0 then s else strG n (sldR s ((s.1.length:Int)-1))
def sldB (xs:List Int) (len:Int) (inner:List Int) (row:Int):List Int×Int×List Int:=(slF (30-(row+(inner.getD row.toNat 0-1))).toNat xs row (inner.getD row.toNat 0-1),lenP row len inner,inner.set row.toNat (inner.getD row.toNat 0-1))
def skwB (b:List Int×Int×List Int):SkD:=(b.2.2.take b.2.1.toNat,qd2 b.1 (b.2.2.take b.2.1.toNat) 21,())
def slX (s:SkD) (row:Int):SkD×Int×Unit:=if (qd5 s).isSome=true∧crnB s.1 row=true then (skwB (sldB ((qd5 s).getD []) (s.1.length:Int) s.1 row),0,()) else (([],[],()),2,())
def strB:Nat→List Int×Int×List Int→List Int×Int×List Int
 | 0,b=>b
 | n+1,b=>if b.2.1≤0 then b else strB n (sldB b.1 b.2.1 b.2.2 (b.2.1-1))
def stX (s:SkD):List (List Int)×Int×Unit:=if (qd5 s).isSome=true then ((skwB (strB 40 ((qd5 s).getD [],(s.1.length:Int),s.1))).2.1,0,()) else ([],2,())
def qx1:Con:=mkC 45 [.d SkT] [LLI,I64] (fun (s:SkD)=>[okRs s∧(qd5 s).isSome=true]) (fun (s:SkD)=>stX s)
def g45a (x0:List Int×List (List Int)×Unit):Option (List (List Int)×Int×Unit):=gd (okRs ((x0.1,x0.2.1,()):List Int×List (List Int)×Unit)∧Option.isSome (qd5 ((x0.1,x0.2.1,()):List Int×List (List Int)×Unit))=true) (qat (fun (d1:List Int×Int×List Int×Unit)=>bif ilt 0 (↑(Int.toNat d1.2.1):Int) then gd (bdB d1.1∧inOk (↑(Int.toNat d1.2.1):Int) d1.2.2.1∧0≤wr .i64 ((↑(Int.toNat d1.2.1):Int)-1)∧wr .i64 ((↑(Int.toNat d1.2.1):Int)-1)<(↑(Int.toNat d1.2.1):Int)∧1≤List.getD d1.2.2.1 (Int.toNat (wr .i64 ((↑(Int.toNat d1.2.1):Int)-1))) 0) (some (Lp.go ((slF (Int.toNat (30-(wr .i64 ((↑(Int.toNat d1.2.1):Int)-1)+(List.getD d1.2.2.1 (Int.toNat (wr .i64 ((↑(Int.toNat d1.2.1):Int)-1))) (0:Int)-1)))) d1.1 (wr .i64 ((↑(Int.toNat d1.2.1):Int)-1)) (List.getD d1.2.2.1 (Int.toNat (wr .i64 ((↑(Int.toNat d1.2.1):Int)-1))) (0:Int)-1),(↑(Int.toNat (lenP (wr .i64 ((↑(Int.toNat d1.2.1):Int)-1)) (↑(Int.toNat d1.2.1):Int) d1.2.2.1)):Int),List.set d1.2.2.1 (Int.toNat (wr .i64 ((↑(Int.toNat d1.2.1):Int)-1))) (List.getD d1.2.2.1 (Int.toNat (wr .i64 ((↑(Int.toNat d1.2.1):Int)-1))) (0:Int)-1),()):List Int×Int×List Int×Unit))) else gd (bdB d1.1∧inOk (↑(Int.toNat d1.2.1):Int) d1.2.2.1) (some (Lp.out ((qd2 d1.1 (List.take (Int.toNat d1.2.1) d1.2.2.1) 21,0,()):List (List Int)×Int×Unit)))) ((Option.getD (qd5 ((x0.1,x0.2.1,()):List Int×List (List Int)×Unit)) ([]:List Int),(↑(List.length x0.1):Int),x0.1,()):List Int×Int×List Int×Unit))
def q2k:List LSh:=LSh.mk (((4,TV.ref (0) 1 0 0):Nat×TV)::([]:List (Nat×TV))) (TB.mix (TV.sl (1) (1) (0)::([]:List TV)) (Ty.int .i64)::TB.arr (Ty.int .i64) true::([]:List TB))::([]:List LSh)
def qyn:Con:=mkC 45 [.d SkT] [LLI,I64] (fun (s:SkD)=>[okRs s∧(qd5 s).isSome=false]) (fun (s:SkD)=>stX s)
def q9n:Con:=mkC 45 [.d SkT] [LLI,I64] (fun (s:SkD)=>[okRs s]) (fun (s:SkD)=>stX s)
set_option maxRecDepth 100000
theorem Con.or {P:Program} {f:FuncId} {ats:List AT} {rs:List Ty} {pre1 pre2 pre:List AV→Option (List Prop)} {F:List AV→Option (Dens rs)} (h1:Con.Ok P ⟨f,ats,rs,pre1,F⟩) (h2:Con.Ok P ⟨f,ats,rs,pre2,F⟩)
  (h:∀ env p,qdr (tsA ats) env→pre env=some p→Ab.allP p→(∃ q,pre1 env=some q∧Ab.allP q)∨(∃ q,pre2 env=some q∧Ab.allP q)):Con.Ok P ⟨f,ats,rs,pre,F⟩ :=
 ⟨h1.1,fun Γ w env p r vs a b c d e g hf=>(h env p c d g).elim (fun ⟨q,q1,q2⟩=>h1.2 Γ w env q r vs a b c q1 e q2 hf) (fun ⟨q,q1,q2⟩=>h2.2 Γ w env q r vs a b c q1 e q2 hf)⟩
def w45b (x0:SkD):Option (List (List Int)×Int×Unit):=gd (okRs ((x0.1,x0.2.1,()):SkD)) (bif !Option.isSome (qd5 ((x0.1,x0.2.1,()):SkD)) then some ((([]:List (List Int)),(2:Int),()):List (List Int)×Int×Unit) else none)
def q18:List LSh:=[LSh.mk [(1,TV.v I64)] []]
theorem q81:qyn.goal Try.prog (spS [qrg,qtv,qtm] []) q18 [] lm30:=by
 have e:(∀ (s:SkD),(okRs s∧(qd5 s).isSome=false)→w45b s=some (stX s))=qyn.goal Try.prog (spS [qrg,qtv,qtm] []) q18 [] lm30:=by kernel_rfl
 rw [← e];rintro s ⟨h1,h2⟩;have es:((s.1,s.2.1,()):SkD)=s:=rfl;unfold w45b stX;rw [es,qab h1,h2];simp [qac]
theorem zc9:qyn.Ok Try.prog:=Con.of_goalS qb4 okN (okS zdy (okS ok88 (okS ok89 okS0))) qyn q81
theorem q1b {inner:List Int} {rows:List (List Int)} (h:SkOk inner rows):∀ {a:Nat},a<rows.length→outI inner rows a≤8
 | 0,ha=>by have:=(h.cnd 0 ha).le;rwa [if_pos rfl] at this
 | a+1,ha=>by
  have:=(h.cnd (a+1) ha).le;rw [if_neg (by omega),show a+1-1=a by omega] at this
  have:=q1b h (a:=a) (by omega)
  omega
theorem qql {rows:List (List Int)} {i:Nat} (h:0<(rows.getD i []).length):i<rows.length:=by
 by_cases hi:i<rows.length
 ·exact hi
 ·rw [getD_none (by omega)] at h;exact absurd h (Nat.lt_irrefl 0)
theorem q7g {s:SkD} (h:(qd5 s).isSome=true):∃ xs,qd5 s=some xs∧bdB xs∧(∀ a b:Nat,a<22→b<18→bx xs a b=atR s.1 s.2.1 a b)∧SkOk s.1 s.2.1∧inOk (s.1.length:Int) s.1:=by
 obtain ⟨xs,hx⟩:=Option.isSome_iff_exists.1 h;have hok:SkOk s.1 s.2.1:=(qnb (inner:=s.1) (rows:=s.2.1)).1 h;obtain ⟨hl,hb⟩:=q6n (inner:=s.1) (rows:=s.2.1) hx;refine ⟨xs,hx,⟨hl,fun i j hi hj=>?_⟩,hb,hok,⟨by omega,by omega,?_,fun x hx=>?_⟩⟩
 ·rw [hb i j hi hj];unfold atR;have hr:=qaz hok.shp i;split
  ·rename_i hq;have hil:=qql (rows:=s.2.1) (i:=i) (by omega)
   have he:=(hok.cnd i hil).ent ((j:Int)-rowF s.1 (i:Int)).toNat (by omega)
   have ho:=q1b hok hil;unfold outI at ho;have:=hok.l20;exact ⟨by omega,by omega,fun _=>by omega⟩
  ·exact ⟨by omega,by omega,fun h=>absurd rfl h⟩
 ·have:=(qal.1 hok.shp).1;omega
 ·have:=qby hok.shp x hx;omega
theorem q3j:∀ {n:Nat} {xs:List Int} {i j:Nat},bdB xs→i<20→j<8→bdB (slF n xs i j)
 | 0,xs,i,j,h,_,_=>h
 | n+1,xs,i,j,h,hi,hj=>by
  have b1:=h.2 i (j+1) (by omega) (by omega)
  have b2:=h.2 (i+1) j (by omega) (by omega)
  have e1:((i:Int)+1)=((i+1:Nat):Int):=by omega
  have e2:((j:Int)+1)=((j+1:Nat):Int):=by omega
  unfold slF;rw [e1,e2]
  by_cases hz:bx xs i ((j+1:Nat):Int)=0∧bx xs ((i+1:Nat):Int) j=0
  ·rw [if_pos hz];exact qo8 h hi hj (by omega)
  ·rw [if_neg hz]
   by_cases hd:0<bx xs ((i+1:Nat):Int) j∧(bx xs i ((j+1:Nat):Int)=0∨bx xs ((i+1:Nat):Int) j≤bx xs i ((j+1:Nat):Int))
   ·rw [if_pos hd];exact q3j (qo8 h hi hj ⟨b2.1,b2.2.1⟩) (b2.2.2 (by omega)).1 hj
   ·rw [if_neg hd];exact q3j (qo8 h hi hj ⟨b1.1,b1.2.1⟩) hi (b1.2.2 (by omega)).2
theorem qo1 {l:List Int} {row:Int} (hs:qad l=true) (h:crnB l row=true):0≤row∧row<(l.length:Int)∧1≤l.getD row.toNat 0∧l.getD row.toNat 0≤8:=by
 unfold crnB at h;rw [wbn] at h;have:=qby hs (l.getD row.toNat 0) (by rw [waa,wab (by omega)];exact wav _)
 omega
theorem qok {l:List Int} {k:Nat} (h:k<l.length):(l.take (k+1)).sum=(l.take k).sum+l.getD k 0:=by
 rw [List.take_add_one,List.sum_append,wab h,waa,wab h];simp
theorem qu8 {l:List Int} {k:Nat} {v:Int}:(l.set k v).take k=l.take k:=by
 refine List.ext_getElem (by simp) fun i h1 h2=>?_
 have:i<k:=by simp at h2;omega
 rw [List.getElem_take,List.getElem_take,List.getElem_set_ne (by omega)]
theorem q4m {l:List Int} (h:∀ x∈l,0≤x):0≤l.sum:=by
 induction l with
 | nil=>simp
 | cons x l ih =>
  rw [List.sum_cons];have:=h x (wa7 ..);have:=ih fun y hy=>h y (wan _ hy)
  omega
abbrev D45:=List Int×Int×List Int×Unit
def st45 (d1:D45):Option (Lp D45 (List (List Int)×Int×Unit)):=bif ilt (0) (↑(Int.toNat d1.2.1)) then gd (bdB d1.1∧inOk (↑(Int.toNat d1.2.1)) d1.2.2.1∧(0)≤wr .i64 ((↑(Int.toNat d1.2.1))-(1))∧wr .i64 ((↑(Int.toNat d1.2.1))-(1))<(↑(Int.toNat d1.2.1))∧(1)≤List.getD d1.2.2.1 (Int.toNat (wr .i64 ((↑(Int.toNat d1.2.1))-(1)))) (0)) (some (Lp.go ((slF (Int.toNat ((30)-(wr .i64 ((↑(Int.toNat d1.2.1))-(1))+(List.getD d1.2.2.1 (Int.toNat (wr .i64 ((↑(Int.toNat d1.2.1))-(1)))) (0)-(1))))) d1.1 (wr .i64 ((↑(Int.toNat d1.2.1))-(1))) (List.getD d1.2.2.1 (Int.toNat (wr .i64 ((↑(Int.toNat d1.2.1))-(1)))) (0)-(1)),(↑(Int.toNat (lenP (wr .i64 ((↑(Int.toNat d1.2.1))-(1))) (↑(Int.toNat d1.2.1)) d1.2.2.1))),List.set d1.2.2.1 (Int.toNat (wr .i64 ((↑(Int.toNat d1.2.1))-(1)))) (List.getD d1.2.2.1 (Int.toNat (wr .i64 ((↑(Int.toNat d1.2.1))-(1)))) (0)-(1)),()):D45))) else gd (bdB d1.1∧inOk (↑(Int.toNat d1.2.1)) d1.2.2.1) (some (Lp.out ((qd2 d1.1 (List.take (Int.toNat d1.2.1) d1.2.2.1) 21,(0),()):List (List Int)×Int×Unit)))
theorem zct:∀ (m n:Nat) (xs inner:List Int),bdB xs→n≤inner.length→inner.length≤20→(∀ x∈inner,0≤x∧x≤8)→(∀ i,i<n→1≤inner.getD i 0)→(inner.take n).sum≤(m:Int) →
  qat st45 ((xs,(n:Int),inner,()):D45)=some ((skwB (strB m (xs,(n:Int),inner))).2.1,0,()):=by
 have base:∀ (m:Nat) (xs inner:List Int),bdB xs→inner.length≤20→(∀ x∈inner,0≤x∧x≤8)→qat st45 ((xs,((0:Nat):Int),inner,()):D45)=some ((skwB (strB m (xs,((0:Nat):Int),inner))).2.1,0,()):=fun m xs inner hB h20 hb=>by
  have e:strB m (xs,((0:Nat):Int),inner)=(xs,((0:Nat):Int),inner):=by
   cases m with
   | zero=>rfl
   | succ m=>unfold strB;rw [if_pos (by simp)]
  rw [e];refine qa8 ?_;unfold st45;simp only [wad];rw [qf6 (qag.2 (by omega)),qab ⟨hB,by omega,by omega,h20,hb⟩]
  rfl
 intro m
 induction m with
 | zero =>
  intro n xs inner hB hn h20 hb h1 hs
  cases n with
  | zero=>exact base _ _ _ hB h20 hb
  | succ k =>
   rw [qok (by omega)] at hs
   have:=h1 k (by omega)
   have:=q4m (l:=inner.take k) fun x hx=>(hb x (List.mem_of_mem_take hx)).1
   omega
 | succ m ih =>
  intro n xs inner hB hn h20 hb h1 hs
  cases n with
  | zero=>exact base _ _ _ hB h20 hb
  | succ k =>
   have hv:=h1 k (by omega)
   have hv8:=hb (inner.getD k 0) (by rw [waa,wab (by omega)];exact wav _)
   have w:wr .i64 (((k+1:Nat):Int)-1)=(k:Int):=by rw [qam (by omega)];omega
   rw [qok (by omega)] at hs
   have hn0:¬ (((k+1:Nat):Int)≤0):=by omega
   have ek:((k+1:Nat):Int)-1=(k:Int):=by omega
   have hslb:bdB (slF (30-((k:Int)+(inner.getD k 0-1))).toNat xs (k:Int) (inner.getD k 0-1)):=by
    have:=q3j (n:=(30-((k:Int)+(inner.getD k 0-1))).toNat) (i:=k) (j:=(inner.getD k 0-1).toNat) hB (by omega) (by omega)
    rwa [wap (by omega)] at this
   have hset:∀ x∈inner.set k (inner.getD k 0-1),0≤x∧x≤8:=fun x hx=>by
    rcases List.mem_or_eq_of_mem_set hx with h | h
    ·exact hb x h
    ·rw [h];omega
   have hget:∀ i,(inner.set k (inner.getD k 0-1)).getD i 0=if k=i then inner.getD k 0-1 else inner.getD i 0:=fun i=>by
    by_cases h:k=i
    ·subst h;rw [if_pos rfl,waa,List.getElem?_set_self (by omega)];rfl
    ·rw [if_neg h,waa,wai h,← waa]
   have eB:strB (m+1) (xs,((k+1:Nat):Int),inner)=strB m (sldB xs ((k+1:Nat):Int) inner (k:Int)):=by
    rw [strB];rw [if_neg hn0,ek]
   rw [eB]
   by_cases hone:inner.getD k 0=1
   ·have eS:sldB xs ((k+1:Nat):Int) inner (k:Int)=(slF (30-((k:Int)+(inner.getD k 0-1))).toNat xs (k:Int) (inner.getD k 0-1),(k:Int),inner.set k (inner.getD k 0-1)):=by
     unfold sldB lenP;rw [wad,if_pos hone]
    rw [eS];refine (qb9 (s':=(((slF (30-((k:Int)+(inner.getD k 0-1))).toNat xs (k:Int) (inner.getD k 0-1),(k:Int),inner.set k (inner.getD k 0-1),()):D45))) ?_).trans (ih k _ _ hslb (by rw [wak];omega) (by rw [wak];exact h20) hset (fun i hi=>by rw [hget,if_neg (by omega)];exact h1 i (by omega)) (by rw [qu8];omega))
    unfold st45;simp only [wad,w];rw [qfs (qak.2 (by omega)),qab ⟨hB,⟨by omega,by omega,h20,hb⟩,by omega,by omega,hv⟩]
    unfold lenP;rw [wad,if_pos hone,wad]
   ·have eS:sldB xs ((k+1:Nat):Int) inner (k:Int)=(slF (30-((k:Int)+(inner.getD k 0-1))).toNat xs (k:Int) (inner.getD k 0-1),((k+1:Nat):Int),inner.set k (inner.getD k 0-1)):=by
     unfold sldB lenP;rw [wad,if_neg hone]
    rw [eS];refine (qb9 (s':=(((slF (30-((k:Int)+(inner.getD k 0-1))).toNat xs (k:Int) (inner.getD k 0-1),((k+1:Nat):Int),inner.set k (inner.getD k 0-1),()):D45))) ?_).trans (ih (k+1) _ _ hslb (by rw [wak];omega) (by rw [wak];exact h20) hset (fun i hi=>by rw [hget];split;omega;exact h1 i (by omega)) (by rw [qok (by rw [wak];omega),qu8,hget,if_pos rfl];omega))
    unfold st45;simp only [wad,w];rw [qfs (qak.2 (by omega)),qab ⟨hB,⟨by omega,by omega,h20,hb⟩,by omega,by omega,hv⟩]
    unfold lenP;rw [wad,if_neg hone,wad]
theorem q9f:qx1.goal Try.prog (spS [qz7,qtv,qtm] []) q2k [] lm30:=by
 have e:(∀ (s:SkD),(okRs s∧(qd5 s).isSome=true)→g45a s=some (stX s))=qx1.goal Try.prog (spS [qz7,qtv,qtm] []) q2k [] lm30:=by kernel_rfl
 rw [← e];rintro s ⟨h1,h2⟩;have es:((s.1,s.2.1,()):SkD)=s:=rfl;obtain ⟨xs,hx,hB,hbx,hok,hin⟩:=q7g h2;unfold g45a stX;rw [es,qab ⟨h1,h2⟩,if_pos h2,hx];have hl8:=(qal.1 hok.shp).1;have:=zct 40 s.1.length xs s.1 hB (wae _) (by omega) hin.2.2.2 (fun i hi=>(qby hok.shp (s.1.getD i 0) (by rw [waa,wab hi];exact wav _)).1) (by rw [wbl];have:=(qal.1 hok.shp).2.2;omega)
 exact this
theorem zdt:qx1.Ok Try.prog:=Con.of_goalS qb4 okN (okS ok80 (okS ok88 (okS ok89 okS0))) qx1 q9f
theorem ok45:q9n.Ok Try.prog:=Con.or zdt zc9 fun env p hE hp ha=>by
 match env,hE with
 | [_],⟨⟨x,rfl⟩,_⟩ =>
  have hp':some [okRs x]=some p:=hp;cases hp';have hx:okRs x:=Ab.allP_one.1 ha
  cases hq:(qd5 x).isSome with
  | true=>exact .inl ⟨_,rfl,Ab.allP_one.2 ⟨hx,hq⟩⟩
  | false=>exact .inr ⟨_,rfl,Ab.allP_one.2 ⟨hx,hq⟩⟩
theorem q3i {inner:List Int} {rows:List (List Int)} {i:Nat} {j:Int}:atX inner rows i j=atR inner rows i j:=by
 unfold atX atR
 by_cases h:rowF inner (i:Int)≤j∧j<rowF inner (i:Int)+((rows.getD i []).length:Int)
 ·rw [if_pos h,if_pos (by omega)]
 ·rw [if_neg h,if_neg (by omega)]
theorem qgo {rows:List (List Int)} {i a:Nat} (hi:i<rows.length) {r:List Int}:(rows.set i r).getD a []=if a=i then r else rows.getD a []:=by
 by_cases h:a=i
 ·subst h;rw [if_pos rfl,waa,List.getElem?_set_self hi];rfl
 ·rw [if_neg h,waa,wai (fun e=>h e.symm),← waa]
theorem qrt {rows:List (List Int)} {i a c:Nat} (hi:i<rows.length) {v:Int}:((rows.set i ((rows.getD i []).set c v)).getD a []).length=(rows.getD a []).length:=by
 rw [qgo hi];split
 ·rename_i h;subst h;rw [wak]
 ·rfl
theorem q2v {rows:List (List Int)} {i a b c:Nat} (hi:i<rows.length) (hc:c<(rows.getD i []).length) {v:Int}:el (rows.set i ((rows.getD i []).set c v)) a b=if a=i∧b=c then v else el rows a b:=by
 unfold el;rw [qgo hi]
 by_cases h:a=i
 ·subst h;rw [if_pos rfl]
  by_cases hb:b=c
  ·subst hb;rw [if_pos ⟨rfl,rfl⟩,waa,List.getElem?_set_self hc];rfl
  ·rw [if_neg (fun h=>hb h.2),waa,wai (fun e=>hb e.symm),← waa]
 ·rw [if_neg h,if_neg (fun hh=>h hh.1)]
structure HoleR (inner:List Int) (rows:List (List Int)) (i j:Nat):Prop where
 fall:∀ a:Nat,0≤rowF inner (a:Int)∧rowF inner ((a+1:Nat):Int)≤rowF inner (a:Int)
 l20:rows.length≤20
 dec:∀ a:Nat,outI inner rows (a+1)≤outI inner rows a
 o8:outI inner rows 0≤8
 lt:i<rows.length
 lo:rowF inner (i:Int)≤(j:Int)
 hi:(j:Int)<outI inner rows i
 ent:∀ a b:Nat,b<(rows.getD a []).length→0≤el rows a b∧el rows a b≤8∧(¬ (a=i∧rowF inner (i:Int)+(b:Int)=(j:Int))→1≤el rows a b)
structure DoneR (inner:List Int) (rows:List (List Int)):Prop where
 dec:∀ a:Nat,outI inner rows (a+1)≤outI inner rows a
 o8:outI inner rows 0≤8
 ent:∀ a b:Nat,b<(rows.getD a []).length→1≤el rows a b∧el rows a b≤8
theorem qid {inner:List Int} {rows:List (List Int)} (h:∀ a:Nat,outI inner rows (a+1)≤outI inner rows a):∀ a:Nat,outI inner rows a≤outI inner rows 0
 | 0=>waw _
 | a+1=>Int.le_trans (h a) (qid h a)
theorem HoleR.at_pos {inner:List Int} {rows:List (List Int)} {i j:Nat} (h:HoleR inner rows i j) {a b:Nat} (hn:¬ (a=i∧b=j)) (h1:rowF inner (a:Int)≤(b:Int)) (h2:(b:Int)<outI inner rows a):1≤atR inner rows a b∧atR inner rows a b≤8:=by
 unfold outI at h2;unfold atR;rw [if_pos ⟨h1,h2⟩];have:=h.ent a ((b:Int)-rowF inner (a:Int)).toNat (by omega)
 refine ⟨this.2.2 fun hh=>hn ⟨hh.1,?_⟩,this.2.1⟩
 have:=hh.1;subst this;omega
theorem zb9 {inner:List Int} {rows:List (List Int)} {a:Nat} {b:Int} (h:atR inner rows a b≠0):rowF inner (a:Int)≤b∧b<outI inner rows a∧a<rows.length:=by
 unfold atR at h
 by_cases hq:rowF inner (a:Int)≤b∧b<rowF inner (a:Int)+((rows.getD a []).length:Int)
 ·exact ⟨hq.1,hq.2,qql (by omega)⟩
 ·rw [if_neg hq] at h;exact absurd rfl h
theorem zai {inner:List Int} {rows:List (List Int)} {i a b c j:Nat} (hi:i<rows.length) (hc:c<(rows.getD i []).length) (hj:rowF inner (i:Int)+(c:Int)=(j:Int)) {v:Int}:atR inner (rows.set i ((rows.getD i []).set c v)) a b=if a=i∧b=j then v else atR inner rows a b:=by
 unfold atR;rw [qrt hi,q2v hi hc]
 by_cases h:a=i∧b=j
 ·obtain ⟨rfl,rfl⟩:=h;have q1:rowF inner (a:Int)≤(b:Int)∧(b:Int)<rowF inner (a:Int)+((rows.getD a []).length:Int):=by omega
  have q2:a=a∧((b:Int)-rowF inner (a:Int)).toNat=c:=⟨rfl,by omega⟩
  have q3:a=a∧b=b:=⟨rfl,rfl⟩;rw [if_pos q1,if_pos q2,if_pos q3]
 ·rw [if_neg h]
  by_cases hq:rowF inner (a:Int)≤(b:Int)∧(b:Int)<rowF inner (a:Int)+((rows.getD a []).length:Int)
  ·rw [if_pos hq,if_pos hq,if_neg];rintro ⟨rfl,h2⟩;exact h ⟨rfl,by omega⟩
  ·rw [if_neg hq,if_neg hq]
theorem qmu {inner:List Int} {rows:List (List Int)} {i a c:Nat} (hi:i<rows.length) {v:Int}:outI inner (rows.set i ((rows.getD i []).set c v)) a=outI inner rows a:=by
 unfold outI;rw [qrt hi]
theorem HoleR.move {inner:List Int} {rows:List (List Int)} {i j i' j' c:Nat} (h:HoleR inner rows i j) (hc:rowF inner (i:Int)+(c:Int)=(j:Int)) (hcl:c<(rows.getD i []).length) {v:Int} (hv:1≤v∧v≤8) (hl:i'<rows.length) (hlo:rowF inner (i':Int)≤(j':Int)) (hhi:(j':Int)<outI inner rows i') :
  HoleR inner (rows.set i ((rows.getD i []).set c v)) i' j' where
 fall:=h.fall
 l20:=by rw [wak];exact h.l20
 dec:=fun a=>by rw [qmu h.lt,qmu h.lt];exact h.dec a
 o8:=by rw [qmu h.lt];exact h.o8
 lt:=by rw [wak];exact hl
 lo:=hlo
 hi:=by rw [qmu h.lt];exact hhi
 ent:=fun a b hb=>by
  rw [qrt h.lt] at hb;rw [q2v h.lt hcl];have:=h.ent a b hb
  by_cases hq:a=i∧b=c
  ·rw [if_pos hq];omega
  ·rw [if_neg hq];exact ⟨this.1,this.2.1,fun _=>this.2.2 fun hh=>hq ⟨hh.1,by omega⟩⟩
theorem q6y {inner:List Int}:∀ (n m:Nat) (rows:List (List Int)) (xs:List Int) (i j:Nat),28≤n+i+j→28≤m+i+j→HoleR inner rows i j→xs.length=397→(∀ a b:Nat,a<22→b<18→bx xs a b=atR inner rows a b) →
  DoneR inner (slR inner m rows i j)∧(slR inner m rows i j).length=rows.length∧(slF n xs i j).length=397∧∀ a b:Nat,a<22→b<18→bx (slF n xs i j) a b=atR inner (slR inner m rows i j) a b:=by
 intro n
 induction n with
 | zero =>
  intro m rows xs i j hn hm h hl hb;have:=h.lt;have:=h.l20;have:=qid h.dec i;have:=h.o8;have:=h.hi;omega
 | succ n ih =>
  intro m rows xs i j hn hm h hl hb;have b1:=h.lt;have b2:=h.l20;have b3:=qid h.dec i;have b4:=h.o8;have b5:=h.hi;have b6:=h.lo;have b7:=h.fall i;obtain ⟨m,rfl⟩:∃ k,m=k+1:=⟨m-1,by omega⟩
  obtain ⟨c,hc⟩:∃ c:Nat,rowF inner (i:Int)+(c:Int)=(j:Int):=⟨((j:Int)-rowF inner (i:Int)).toNat,by omega⟩
  have hcl:c<(rows.getD i []).length:=by unfold outI at b5;omega
  have ec:((j:Int)-rowF inner (i:Int)).toNat=c:=by omega
  have e1:((i:Int)+1)=((i+1:Nat):Int):=by omega
  have e2:((j:Int)+1)=((j+1:Nat):Int):=by omega
  have hR:=hb i (j+1) (by omega) (by omega)
  have hD:=hb (i+1) j (by omega) (by omega)
  have pR:=h.at_pos (a:=i) (b:=j+1) (by omega) (by omega)
  have pD:=h.at_pos (a:=i+1) (b:=j) (by omega) (by omega)
  unfold slF slR;rw [e1,e2,hR,hD,q3i,q3i,ec];generalize hvr:atR inner rows i ((j+1:Nat):Int)=vr at *;generalize hvd:atR inner rows (i+1) (j:Int)=vd at *;have iR:vr≠0→rowF inner (i:Int)≤((j+1:Nat):Int)∧((j+1:Nat):Int)<outI inner rows i∧i<rows.length:=fun hh=>zb9 (by rw [hvr];exact hh)
  have iD:vd≠0→rowF inner ((i+1:Nat):Int)≤(j:Int)∧(j:Int)<outI inner rows (i+1)∧i+1<rows.length:=fun hh=>zb9 (by rw [hvd];exact hh)
  have step:∀ v:Int,∀ a b:Nat,a<22→b<18→bx (xs.set ((i:Int)*18+(j:Int)).toNat v) a b=atR inner (rows.set i ((rows.getD i []).set c v)) a b:=fun v a b ha hb'=>by
   rw [qy6 (by omega) hb' hl (by omega),zai b1 hcl hc,hb a b ha hb']
  by_cases hz:vr=0∧vd=0
  ·rw [if_pos hz,if_pos hz];have hout:outI inner rows i=(j:Int)+1:=by
    by_cases hh:((j+1:Nat):Int)<outI inner rows i
    ·have:=pR hh;omega
    ·omega
   have hlen:(rows.getD i []).length=c+1:=by unfold outI at hout;omega
   have hdn:outI inner rows (i+1)≤(j:Int):=by
    by_cases hh:(j:Int)<outI inner rows (i+1)
    ·have:=pD hh;omega
    ·omega
   have lenT:∀ a,((rows.set i ((rows.getD i []).take c)).getD a []).length=if a=i then c else (rows.getD a []).length:=fun a=>by
    rw [qgo b1];split
    ·rw [wao];omega
    ·rfl
   have elT:∀ a b,b<((rows.set i ((rows.getD i []).take c)).getD a []).length→el (rows.set i ((rows.getD i []).take c)) a b=el rows a b:=fun a b hb'=>by
    rw [lenT] at hb';unfold el;rw [qgo b1]
    by_cases ha:a=i
    ·rw [if_pos ha] at hb';rw [if_pos ha,ha,waa,List.getElem?_take_of_lt hb',← waa]
    ·rw [if_neg ha]
   have outT:∀ a,outI inner (rows.set i ((rows.getD i []).take c)) a=if a=i then (j:Int) else outI inner rows a:=fun a=>by
    unfold outI;rw [lenT]
    by_cases ha:a=i
    ·rw [if_pos ha,if_pos ha,ha];exact hc
    ·rw [if_neg ha,if_neg ha]
   refine ⟨⟨fun a=>?_,?_,fun a b hb'=>?_⟩,by rw [wak],by rw [wak];exact hl,fun a b ha hb'=>?_⟩
   ·rw [outT,outT];have:=h.dec a
    by_cases h1:a+1=i
    ·rw [if_pos h1,if_neg (by omega)];rw [h1] at this;omega
    ·rw [if_neg h1]
     by_cases h2:a=i
     ·rw [if_pos h2,h2];exact hdn
     ·rw [if_neg h2];exact this
   ·rw [outT];split<;>omega
   ·rw [elT a b hb'];rw [lenT] at hb';have hb2:b<(rows.getD a []).length:=by
     by_cases ha:a=i
     ·rw [if_pos ha] at hb';rw [ha];omega
     ·rw [if_neg ha] at hb';exact hb'
    have:=h.ent a b hb2;refine ⟨this.2.2 fun hh=>?_,this.2.1⟩
    rw [if_pos hh.1] at hb';omega
   ·rw [qy6 (by omega) hb' hl (by omega),hb a b ha hb']
    unfold atR;rw [lenT]
    by_cases ha:a=i
    ·rw [if_pos ha,ha]
     by_cases hbj:b=j
     ·rw [if_pos ⟨rfl,hbj⟩,if_neg (by omega)]
     ·rw [if_neg (fun hh=>hbj hh.2)]
      by_cases hq:rowF inner (i:Int)≤(b:Int)∧(b:Int)<rowF inner (i:Int)+(c:Int)
      ·rw [if_pos hq,if_pos (by omega),elT i _ (by rw [lenT,if_pos rfl];omega)]
      ·rw [if_neg hq,if_neg (by omega)]
    ·rw [if_neg ha,if_neg (fun hh=>ha hh.1)]
     by_cases hq:rowF inner (a:Int)≤(b:Int)∧(b:Int)<rowF inner (a:Int)+((rows.getD a []).length:Int)
     ·rw [if_pos hq,if_pos hq,elT a _ (by rw [lenT,if_neg ha];omega)]
     ·rw [if_neg hq,if_neg hq]
  ·rw [if_neg hz,if_neg hz]
   by_cases hd:0<vd∧(vr=0∨vd≤vr)
   ·rw [if_pos hd,if_pos hd];have q:=iD (by omega)
    have p:=pD q.2.1;have:=ih m _ _ (i+1) j (by omega) (by omega) (h.move hc hcl (v:=vd) p q.2.2 q.1 q.2.1) (by rw [wak];exact hl) (step vd)
    rw [wak] at this;exact this
   ·rw [if_neg hd,if_neg hd];have hd0:0≤vd:=by
     by_cases hh:vd=0
     ·omega
     ·have:=pD (iD hh).2.1;omega
    have hr0:vr≠0:=fun hh=>by
     have:vd≠0:=fun h0=>hz ⟨hh,h0⟩
     exact hd ⟨by omega,.inl hh⟩
    have q:=iR hr0;have p:=pR q.2.1;have:=ih m _ _ i (j+1) (by omega) (by omega) (h.move hc hcl (v:=vr) p q.2.2 q.1 q.2.1) (by rw [wak];exact hl) (step vr)
    rw [wak] at this;exact this
def decI (l:List Int) (row:Int):List Int:=l.set row.toNat (l.getD row.toNat 0-1)
def qk5 (rows:List (List Int)) (row:Int):List (List Int):=rows.set row.toNat (0::rows.getD row.toNat [])
theorem qje {l:List Int} {row:Int} (h0:0≤row) (h1:row<(l.length:Int)) {a:Nat}:rowF (decI l row) (a:Int)=if a=row.toNat then l.getD row.toNat 0-1 else rowF l (a:Int):=by
 rw [qba,qba];unfold decI
 by_cases h:a=row.toNat
 ·rw [if_pos h,h,waa,List.getElem?_set_self (by omega)];rfl
 ·rw [if_neg h,waa,wai (fun e=>h e.symm),← waa]
theorem qry {rows:List (List Int)} {row:Int} (h:row.toNat<rows.length) {a:Nat}:((qk5 rows row).getD a []).length=if a=row.toNat then (rows.getD a []).length+1 else (rows.getD a []).length:=by
 unfold qk5;rw [qgo h];split
 ·rename_i hq;rw [wbf,hq]
 ·rfl
theorem qw5 {rows:List (List Int)} {row:Int} (h:row.toNat<rows.length) {a b:Nat}:el (qk5 rows row) a b=if a=row.toNat then (if b=0 then 0 else el rows a (b-1)) else el rows a b:=by
 unfold qk5 el;rw [qgo h]
 by_cases ha:a=row.toNat
 ·rw [if_pos ha,if_pos ha,ha]
  cases b with
  | zero=>rfl
  | succ b=>rw [if_neg (by omega)];simp
 ·rw [if_neg ha,if_neg ha]
theorem q14 {l:List Int} {rows:List (List Int)} (h:BedR l rows) {row:Int} (hc:crnB l row=true):HoleR (decI l row) (qk5 rows row) row.toNat (l.getD row.toNat 0-1).toNat∧∀ a b:Nat,atR (decI l row) (qk5 rows row) a b=atR l rows a b:=by
 obtain ⟨c0,c1,c2,c3⟩:=qo1 h.shp hc;have hlen:=h.len;have hr:row.toNat<rows.length:=by omega
 have hrow:rowF l ((row.toNat:Nat):Int)=l.getD row.toNat 0:=qba ..;have hcorner:rowF l ((row.toNat+1:Nat):Int)<l.getD row.toNat 0:=by
  unfold crnB at hc;rw [wbn] at hc;have e:row+1=((row.toNat+1:Nat):Int):=by omega
  have e2:rowF l row=rowF l ((row.toNat:Nat):Int):=by rw [wap c0]
  rw [e,e2,hrow] at hc;exact hc.2.2
 have hout:∀ a,outI (decI l row) (qk5 rows row) a=outI l rows a:=fun a=>by
  unfold outI;rw [qje c0 c1,qry hr]
  by_cases ha:a=row.toNat
  ·rw [if_pos ha,if_pos ha,ha,hrow];omega
  ·rw [if_neg ha,if_neg ha]
 refine ⟨⟨fun a=>?_,?_,fun a=>?_,?_,?_,?_,?_,fun a b hb=>?_⟩,fun a b=>?_⟩
 ·rw [qje c0 c1,qje c0 c1];have s:=qaz h.shp a
  by_cases h1:a=row.toNat
  ·rw [if_pos h1,if_neg (by omega),h1];omega
  ·rw [if_neg h1]
   by_cases h2:a+1=row.toNat
   ·rw [if_pos h2];rw [h2,hrow] at s;omega
   ·rw [if_neg h2];omega
 ·unfold qk5;rw [wak];exact h.l20
 ·rw [hout,hout];exact h.dec a
 ·rw [hout];exact h.o8
 ·unfold qk5;rw [wak];exact hr
 ·rw [qje c0 c1,if_pos rfl];omega
 ·rw [hout];unfold outI;rw [hrow];omega
 ·rw [qry hr] at hb;rw [qw5 hr,qje c0 c1,if_pos rfl]
  by_cases ha:a=row.toNat
  ·rw [if_pos ha] at hb ⊢
   by_cases hb0:b=0
   ·rw [if_pos hb0];refine ⟨by omega,by omega,fun hh=>absurd ⟨ha,by omega⟩ hh⟩
   ·rw [if_neg hb0];have:=h.ent a (b-1) (by omega)
    omega
  ·rw [if_neg ha] at hb ⊢;have:=h.ent a b hb;omega
 ·unfold atR;rw [qje c0 c1,qry hr]
  by_cases ha:a=row.toNat
  ·rw [if_pos ha,if_pos ha,qw5 hr,if_pos ha];have e:rowF l (a:Int)=l.getD row.toNat 0:=by rw [ha];exact hrow
   rw [e]
   by_cases h1:l.getD row.toNat 0≤(b:Int)∧(b:Int)<l.getD row.toNat 0+((rows.getD a []).length:Int)
   ·rw [if_pos h1,if_pos (by omega),if_neg (by omega)]
    congr 1;omega
   ·rw [if_neg h1]
    by_cases h2:l.getD row.toNat 0-1≤(b:Int)∧(b:Int)<l.getD row.toNat 0-1+(((rows.getD a []).length+1:Nat):Int)
    ·rw [if_pos h2,if_pos (by omega)]
    ·rw [if_neg h2]
  ·rw [if_neg ha,if_neg ha,qw5 hr,if_neg ha]
theorem qj3:∀ {o:List Int} {p:Nat},p≤o.length→(∀ i,p≤i→o.getD i 0=0)→(0<p→o.getD (p-1) 0≠0)→qbd o=o.take p
 | [],p,hp,_,_=>by simp [qbd]
 | x::o,0,hp,hz,_=>by
  have ih:=qj3 (o:=o) (p:=0) (Nat.zero_le _) (fun i hi=>by have:=hz (i+1) (Nat.zero_le _);simpa using this) (fun h=>absurd h (Nat.lt_irrefl 0))
  have hx:x=0:=by have:=hz 0 (wae _);simpa using this
  rw [qbd,ih,if_pos ⟨by simp,hx⟩];rfl
 | x::o,p+1,hp,hz,hl=>by
  have ih:=qj3 (o:=o) (p:=p) (by simpa using hp) (fun i hi=>by have:=hz (i+1) (by omega);simpa using this) (fun h=>by
   have:=hl (by omega)
   obtain ⟨q,rfl⟩:∃ q,p=q+1:=⟨p-1,by omega⟩
   simpa using this)
  rw [qbd,ih,List.take_succ_cons];rw [if_neg];rintro ⟨h1,h2⟩;have hl':p≤o.length:=by simpa using hp
  have:(o.take p).length=0:=by rw [h1];rfl
  rw [wao] at this;have hp0:p=0:=by omega
  subst hp0;exact hl (by omega) (by simpa using h2)
theorem qm3:∀ {l:List Int} {r:Nat} {v:Int},r<l.length→(l.set r v).sum=l.sum-l.getD r 0+v
 | [],r,v,h=>absurd h (wby _)
 | x::l,0,v,h=>by simp;omega
 | x::l,r+1,v,h=>by
  have:=qm3 (l:=l) (r:=r) (v:=v) (by simpa using h)
  simp only [List.set_cons_succ,List.sum_cons,List.getD_cons_succ,this];omega
theorem qnu {l:List Int} {p:Nat} (h:∀ x∈l,0≤x):(l.take p).sum≤l.sum:=by
 have e:l.sum=(l.take p).sum+(l.drop p).sum:=by rw [← List.sum_append,List.take_append_drop]
 have:=q4m (l:=l.drop p) fun x hx=>h x (List.mem_of_mem_drop hx)
 omega
theorem qil {l:List Int} {p i:Nat} (h:i<p):(l.take p).getD i 0=l.getD i 0:=by
 rw [waa,List.getElem?_take_of_lt h,← waa]
theorem q5f {l:List Int} {rows:List (List Int)} (h:BedR l rows) {row:Int} (hc:crnB l row=true):qbd (decI l row)=(decI l row).take (lenP row (l.length:Int) l).toNat∧qad ((decI l row).take (lenP row (l.length:Int) l).toNat)=true:=by
 obtain ⟨c0,c1,c2,c3⟩:=qo1 h.shp hc;have hH:=(q14 h hc).1;have hcorner:rowF l (row+1)<rowF l row:=by
  unfold crnB at hc;rw [wbn] at hc;exact hc.2.2
 have e0:rowF l row=l.getD row.toNat 0:=by unfold rowF;rw [if_neg (by omega)]
 have e1:rowF l (row+1)=l.getD (row.toNat+1) 0:=by unfold rowF;rw [if_neg (by omega)];congr 1;omega
 rw [e0,e1] at hcorner;have hpos:∀ i,i<l.length→1≤l.getD i 0∧l.getD i 0≤8:=fun i hi=>qby h.shp (l.getD i 0) (by rw [waa,wab hi];exact wav _)
 have hlen:(decI l row).length=l.length:=by unfold decI;rw [wak]
 have hget:∀ i:Nat,(decI l row).getD i 0=if i=row.toNat then l.getD row.toNat 0-1 else l.getD i 0:=fun i=>by
  have:=qje c0 c1 (a:=i)
  rwa [qba,qba] at this
 have hout:∀ i,l.length≤i→l.getD i 0=0:=fun i hi=>by rw [waa,wac hi];rfl
 have hl8:=(qal.1 h.shp).1;have hs8:=(qal.1 h.shp).2.2;have hp:∃ p:Nat,(lenP row (l.length:Int) l).toNat=p∧p≤l.length∧(∀ i,p≤i→(decI l row).getD i 0=0)∧∀ i,i<p→1≤(decI l row).getD i 0∧(decI l row).getD i 0≤8:=by
  unfold lenP
  by_cases h1:l.getD row.toNat 0=1
  ·rw [if_pos h1];have hlast:l.length=row.toNat+1:=by
    by_cases hh:row.toNat+1<l.length
    ·have:=hpos _ hh;omega
    ·omega
   refine ⟨row.toNat,rfl,by omega,fun i hi=>?_,fun i hi=>?_⟩
   ·rw [hget]
    by_cases hi2:i=row.toNat
    ·rw [if_pos hi2];omega
    ·rw [if_neg hi2];exact hout i (by omega)
   ·rw [hget,if_neg (by omega)];exact hpos i (by omega)
  ·rw [if_neg h1];refine ⟨l.length,by omega,wae _,fun i hi=>?_,fun i hi=>?_⟩
   ·rw [hget,if_neg (by omega)];exact hout i hi
   ·rw [hget];have:=hpos i hi;split
    ·rename_i hq;rw [hq] at this;omega
    ·exact this
 obtain ⟨p,ep,hp1,hp2,hp3⟩:=hp;rw [ep];refine ⟨qj3 (by omega) hp2 (fun h0=>by have:=hp3 (p-1) (by omega);omega),?_⟩
 rw [qal];refine ⟨by rw [wao];omega,fun i hi=>?_,?_⟩
 ·rw [wao] at hi;rw [qcc,qil (by omega)]
  refine ⟨hp3 i (by omega),?_⟩
  by_cases h0:i=0
  ·exact .inl h0
  ·right;rw [qil (by omega)]
   have:=(hH.fall (i-1)).2;rw [show i-1+1=i by omega,qba,qba] at this
   exact this
 ·have h1:=qnu (l:=decI l row) (p:=p) fun x hx=>by
   unfold decI at hx
   rcases List.mem_or_eq_of_mem_set hx with h | hq
   ·have:=qby ‹BedR l rows›.shp x h;omega
   ·rw [hq];omega
  have h2:=qm3 (l:=l) (r:=row.toNat) (v:=l.getD row.toNat 0-1) (by omega)
  unfold decI at h1 ⊢;omega
theorem q4v {xs inner:List Int} {rows:List (List Int)} {i:Nat} (hi:i<22) (hb:∀ b:Nat,b<18→bx xs i b=atR inner rows i b) (h0:0≤rowF inner (i:Int)) (h8:outI inner rows i≤8) (he:∀ b,b<(rows.getD i []).length→1≤el rows i b) :
  ∀ {n k:Nat},k≤(rows.getD i []).length→(rows.getD i []).length<k+n→runB n xs i (rowF inner (i:Int)+(k:Int))=(rows.getD i []).drop k
 | 0,k,h1,h2=>by omega
 | n+1,k,h1,h2=>by
  unfold outI at h8;obtain ⟨b,eb⟩:∃ b:Nat,rowF inner (i:Int)+(k:Int)=(b:Int):=⟨(rowF inner (i:Int)+(k:Int)).toNat,by omega⟩
  have hx:=hb b (by omega)
  unfold runB;rw [eb,hx]
  by_cases hk:k<(rows.getD i []).length
  ·have h:=he k hk;have hv:atR inner rows i (b:Int)=el rows i k:=by
    unfold atR;rw [if_pos (by omega),show ((b:Int)-rowF inner (i:Int)).toNat=k by omega]
   rw [hv,if_pos (by omega),List.drop_eq_getElem_cons hk]
   have ih:=q4v hi hb h0 (by unfold outI;exact h8) he (n:=n) (k:=k+1) (by omega) (by omega)
   rw [show (b:Int)+1=rowF inner (i:Int)+((k+1:Nat):Int) by omega,ih]
   congr 1;unfold el;rw [waa,wab hk];rfl
  ·have hv:atR inner rows i (b:Int)=0:=by
    unfold atR;rw [if_neg (by omega)]
   rw [hv,if_neg (by omega),List.drop_eq_nil_of_le (by omega)]
theorem qvb {xs inner:List Int} {rows:List (List Int)} (hb:∀ a b:Nat,a<22→b<18→bx xs a b=atR inner rows a b) (h0:∀ a:Nat,0≤rowF inner (a:Int)) (h8:∀ a:Nat,outI inner rows a≤8) (he:∀ a b,b<(rows.getD a []).length→1≤el rows a b) {K:Nat} (hK:K≤rows.length)
  (h1:∀ a,a<K→0<outI inner rows a) (h2:∀ a,K≤a→outI inner rows a≤0):∀ {n:Nat},n≤22→qd2 xs inner n=rows.take (min n K)
 | 0,_=>by simp [qd2]
 | n+1,hn=>by
  have hr:=q4v (xs:=xs) (inner:=inner) (rows:=rows) (i:=n) (by omega) (fun b hb'=>hb n b (by omega) hb') (h0 n) (h8 n) (he n) (n:=10) (k:=0) (Nat.zero_le _) (by have:=h8 n;have:=h0 n;unfold outI at *;omega)
  rw [wcb,show rowF inner (n:Int)+((0:Nat):Int)=rowF inner (n:Int) by omega] at hr
  rw [qd2,qvb hb h0 h8 he hK h1 h2 (n:=n) (by omega),hr]
  have ho:rowF inner (n:Int)+((rows.getD n []).length:Int)=outI inner rows n:=rfl;rw [ho]
  by_cases hnK:n<K
  ·rw [if_pos (h1 n hnK),show min (n+1) K=n+1 by omega,show min n K=n by omega,List.take_add_one,wab (by omega),waa,wab (by omega)]
   rfl
  ·have:=h2 n (by omega)
   rw [if_neg (by omega),show min (n+1) K=K by omega,show min n K=K by omega,wci]
theorem qxv {n:Nat} {rows:List (List Int)} {K:Nat} (h1:∀ i,i<K→¬ (n<i+1∧(rows.getD i []).length=0)) (h2:∀ i,K≤i→n<i+1∧(rows.getD i []).length=0):∀ {m:Nat},K≤m→qus n rows m=K
 | 0,h=>by unfold qus;omega
 | m+1,h=>by
  unfold qus
  by_cases hm:m+1=K
  ·rw [if_neg (h1 m (by omega))];exact hm
  ·rw [if_pos (h2 m (by omega)),qxv h1 h2 (m:=m) (by omega)]
theorem ex_K {f:Nat→Int} (h:∀ a,f (a+1)≤f a):∀ n:Nat,f n≤0→∃ K,K≤n∧(∀ a,a<K→0<f a)∧∀ a,K≤a→f a≤0
 | 0,h0=>⟨0,wae _,fun a ha=>absurd ha (wby _),fun a _=>by
  induction a with
  | zero=>exact h0
  | succ a ih=>exact Int.le_trans (h a) (ih (Nat.zero_le _))⟩
 | n+1,h1=>by
  by_cases hn:f n≤0
  ·obtain ⟨K,k1,k2,k3⟩:=ex_K h n hn;exact ⟨K,by omega,k2,k3⟩
  ·have mono:∀ d a,f (a+d)≤f a:=fun d a=>by
    induction d with
    | zero=>exact waw _
    | succ d ih=>exact Int.le_trans (h (a+d)) ih
   refine ⟨n+1,wae _,fun a ha=>?_,fun a ha=>?_⟩
   ·have:=mono (n-a) a;rw [show a+(n-a)=n by omega] at this
    omega
   ·have:=mono (a-(n+1)) (n+1);rw [show n+1+(a-(n+1))=a by omega] at this
    omega
theorem qk2 {rows:List (List Int)} {K a:Nat}:(rows.take K).getD a []=if a<K then rows.getD a [] else []:=by
 by_cases h:a<K
 ·rw [if_pos h,waa,List.getElem?_take_of_lt h,← waa]
 ·rw [if_neg h,getD_none (by rw [wao];omega)]
theorem q4w {l:List Int} {R:List (List Int)} (fall:∀ a:Nat,0≤rowF l (a:Int)) (hD:DoneR l R) (hl:l.length≤R.length) (h20:R.length≤20) {p:Nat} (hp:p≤l.length) (ht:qbd l=l.take p) (hs:qad (l.take p)=true) (hz:∀ i,p≤i→l.getD i 0=0) :
  ∃ R',qml ((l,R,()):SkD)=(l.take p,R',())∧BedR (l.take p) R'∧(∀ a b:Nat,atR (l.take p) R' a b=atR l R a b)∧(∀ xs:List Int,(∀ a b:Nat,a<22→b<18→bx xs a b=atR l R a b)→qd2 xs (l.take p) 21=R'):=by
 have hrow:∀ a:Nat,rowF (l.take p) (a:Int)=rowF l (a:Int):=fun a=>by
  rw [qba,qba]
  by_cases ha:a<p
  ·exact qil ha
  ·rw [hz a (by omega),waa,wac (by rw [wao];omega)];rfl
 have hlast:outI l R R.length≤0:=by
  unfold outI;rw [getD_none (wae _),qba,waa,wac hl];exact waw _
 obtain ⟨K,k1,k2,k3⟩:=ex_K hD.dec R.length hlast;have hlp:(l.take p).length=p:=by rw [wao];omega
 have hpos:∀ a,a<p→1≤rowF l (a:Int):=fun a ha=>by
  rw [← hrow,qba];exact (qby hs _ (by rw [waa,wab (by omega)];exact wav _)).1
 have hpK:p≤K:=by
  by_cases h:p≤K
  ·exact h
  ·have h1:=hpos K (by omega)
   have h2:=k3 K (wae _);unfold outI at h2;omega
 have hout:∀ a,outI (l.take p) (R.take K) a=outI l R a:=fun a=>by
  unfold outI;rw [hrow,qk2]
  by_cases ha:a<K
  ·rw [if_pos ha]
  ·rw [if_neg ha];have:=k3 a (by omega)
   have:=fall a;unfold outI at *;show rowF l (a:Int)+((0:Nat):Int)=_;omega
 have hlenK:∀ a b,b<((R.take K).getD a []).length→a<K∧b<(R.getD a []).length:=fun a b hb=>by
  rw [qk2] at hb
  by_cases ha:a<K
  ·rw [if_pos ha] at hb;exact ⟨ha,hb⟩
  ·rw [if_neg ha] at hb;exact absurd hb (wby _)
 have hel:∀ a b,a<K→el (R.take K) a b=el R a b:=fun a b ha=>by
  unfold el;rw [qk2,if_pos ha]
 have o8:∀ a,outI l R a≤8:=fun a=>Int.le_trans (qid hD.dec a) hD.o8
 have hat:∀ a b:Nat,atR (l.take p) (R.take K) a b=atR l R a b:=fun a b=>by
  have ho:=hout a;unfold outI at ho;unfold atR;rw [ho,hrow]
  by_cases hq:rowF l (a:Int)≤(b:Int)∧(b:Int)<rowF l (a:Int)+((R.getD a []).length:Int)
  ·rw [if_pos hq,if_pos hq,hel]
   by_cases ha:a<K
   ·exact ha
   ·have:=k3 a (by omega)
    have:=fall a;unfold outI at *;omega
  ·rw [if_neg hq,if_neg hq]
 have htk:qus (l.take p).length R R.length=K:=qxv (n:=(l.take p).length) (rows:=R) (K:=K) (fun i hi hh=>by
   have:=k2 i hi;unfold outI at this;rw [qba] at this;have:=hz i (by omega)
   omega) (fun i hi=>by
   have h1:=k3 i hi;have h2:=fall i;unfold outI at h1;omega) k1
 refine ⟨R.take K,?_,⟨hs,?_,?_,fun a=>?_,?_,fun a b hb=>?_⟩,hat,fun xs hb=>?_⟩
 ·unfold qml;simp only;rw [ht,htk]
 ·rw [hlp,wao];omega
 ·rw [wao];omega
 ·rw [hout,hout];exact hD.dec a
 ·rw [hout];exact hD.o8
 ·obtain ⟨ha,hb'⟩:=hlenK a b hb;rw [hel a b ha];exact hD.ent a b hb'
 ·have:=qvb (xs:=xs) (inner:=l.take p) (rows:=R.take K) (K:=K) (fun a b ha hb'=>by rw [hat];exact hb a b ha hb') (fun a=>by rw [hrow];exact fall a) (fun a=>by rw [hout];exact o8 a) (fun a b hb'=>by
   obtain ⟨ha,hb2⟩:=hlenK a b hb';rw [hel a b ha];exact (hD.ent a b hb2).1) (by rw [wao];omega) (fun a ha=>by rw [hout];exact k2 a ha) (fun a ha=>by rw [hout];exact k3 a ha) (n:=21) (by omega)
  rw [this,show min 21 K=K by omega,List.take_take,Nat.min_self]
theorem qpk {l:List Int} {rows:List (List Int)} (h:BedR l rows) {row:Int} (hc:crnB l row=true) {xs:List Int} (hx:xs.length=397) (hb:∀ a b:Nat,a<22→b<18→bx xs a b=atR l rows a b) :
  ∃ R',sldR ((l,rows,()):SkD) row=((decI l row).take (lenP row (l.length:Int) l).toNat,R',())∧BedR ((decI l row).take (lenP row (l.length:Int) l).toNat) R' ∧
   (slF (30-(row+(l.getD row.toNat 0-1))).toNat xs row (l.getD row.toNat 0-1)).length=397 ∧
   (∀ a b:Nat,a<22→b<18→bx (slF (30-(row+(l.getD row.toNat 0-1))).toNat xs row (l.getD row.toNat 0-1)) a b=atR ((decI l row).take (lenP row (l.length:Int) l).toNat) R' a b) ∧
   qd2 (slF (30-(row+(l.getD row.toNat 0-1))).toNat xs row (l.getD row.toNat 0-1)) ((decI l row).take (lenP row (l.length:Int) l).toNat) 21=R':=by
 obtain ⟨c0,c1,c2,c3⟩:=qo1 h.shp hc;obtain ⟨hH,hat⟩:=q14 h hc;obtain ⟨t1,t2⟩:=q5f h hc;have hl8:=(qal.1 h.shp).1;have hlen:=h.len;have er:((row.toNat:Nat):Int)=row:=wap c0;have ev:(((l.getD row.toNat 0-1).toNat:Nat):Int)=l.getD row.toNat 0-1:=wap (by omega)
 have hS:=q6y (inner:=decI l row) (30-(row+(l.getD row.toNat 0-1))).toNat 40 (qk5 rows row) xs row.toNat (l.getD row.toNat 0-1).toNat (by omega) (by omega) hH hx (fun a b ha hb'=>by rw [hat];exact hb a b ha hb')
 rw [er,ev] at hS;obtain ⟨s1,s2,s3,s4⟩:=hS;have hdl:(decI l row).length=l.length:=by unfold decI;rw [wak]
 have hhl:(qk5 rows row).length=rows.length:=by unfold qk5;rw [wak]
 have hpl:(lenP row (l.length:Int) l).toNat≤(decI l row).length:=by rw [hdl];unfold lenP;split<;>omega
 have hz:∀ i,(lenP row (l.length:Int) l).toNat≤i→(decI l row).getD i 0=0:=fun i hi=>by
  obtain ⟨m,hm⟩:=qlq (o:=decI l row);rw [t1] at hm;rw [hm,waa,wah (by rw [wao];omega),wa6]
  split<;>rfl
 obtain ⟨R',r1,r2,r3,r4⟩:=q4w (l:=decI l row) (R:=slR (decI l row) 40 (qk5 rows row) row.toNat (l.getD row.toNat 0-1)) (fun a=>(hH.fall a).1) s1 (by rw [s2,hdl,hhl];exact hlen) (by rw [s2,hhl];exact h.l20) hpl t1 t2 hz
 exact ⟨R',r1,r2,s3,fun a b ha hb'=>by rw [r3];exact s4 a b ha hb',r4 _ s4⟩
theorem qq8 {l:List Int} {rows:List (List Int)} (h:SkOk l rows):BedR l rows:=by
 have hlen:=h.len;refine ⟨h.shp,h.len,h.l20,fun i=>?_,?_,fun i j hj=>?_⟩
 ·by_cases hi:i+1<rows.length
  ·have:=(h.cnd (i+1) hi).le
   rwa [if_neg (by omega),show i+1-1=i by omega] at this
  ·have h1:=(qaz h.shp i).1;have h2:rowF l ((i+1:Nat):Int)=0:=by rw [qba,waa,wac (by omega)];rfl
   unfold outI;rw [h2,getD_none (i:=i+1) (by omega)]
   show (0:Int)+((0:Nat):Int)≤_;omega
 ·by_cases h0:0<rows.length
  ·exact q1b h h0
  ·unfold outI;rw [qba,waa,wac (by omega),getD_none (by omega)]
   exact (by omega:(0:Int)+((0:Nat):Int)≤8)
 ·exact (h.cnd i (qql (by omega))).ent j hj
theorem BedR.done {l:List Int} {rows:List (List Int)} (h:BedR l rows):DoneR l rows:=⟨h.dec,h.o8,h.ent⟩
theorem qm5 {l:List Int} {rows:List (List Int)} (h:BedR l rows):∃ R',qml ((l,rows,()):SkD)=(l,R',())∧BedR l R'∧(∀ a b:Nat,atR l R' a b=atR l rows a b)∧(∀ xs:List Int,(∀ a b:Nat,a<22→b<18→bx xs a b=atR l rows a b)→qd2 xs l 21=R'):=by
 have ht:qbd l=l.take l.length:=qj3 (wae _) (fun i hi=>by rw [waa,wac hi];rfl) (fun h0=>by
  have:=qby h.shp (l.getD (l.length-1) 0) (by rw [waa,wab (by omega)];exact wav _)
  omega)
 have:=q4w (l:=l) (R:=rows) (fun a=>(qaz h.shp a).1) h.done h.len h.l20 (p:=l.length) (wae _) ht (by rw [wbl];exact h.shp) (fun i hi=>by rw [waa,wac hi];rfl)
 rw [wbl] at this;exact this
theorem qxk {l:List Int} (hs:qad l=true) (h0:0<l.length):crnB l ((l.length:Int)-1)=true:=by
 have h1:=qby hs (l.getD (l.length-1) 0) (by rw [waa,wab (by omega)];exact wav _)
 unfold crnB;rw [wbn];have e1:(l.length:Int)-1+1=((l.length:Nat):Int):=by omega
 have e2:(l.length:Int)-1=((l.length-1:Nat):Int):=by omega
 rw [e1,e2,qba,qba,waa (i:=l.length),wac (wae _)];refine ⟨by omega,by omega,?_⟩
 show (0:Int)<_;omega
set_option maxHeartbeats 2000000 in
theorem zcu:∀ (m:Nat) (l:List Int) (rows:List (List Int)) (xs inner:List Int) (n:Nat),n≤inner.length→l=inner.take n→BedR l rows→xs.length=397→(∀ a b:Nat,a<22→b<18→bx xs a b=atR l rows a b)→qd2 xs l 21=rows→l.sum≤(m:Int) →
  (skwB (strB m (xs,(n:Int),inner))).2.1=(strG m ((l,rows,()):SkD)).2.1:=by
 intro m;have base:∀ (m:Nat) (rows:List (List Int)) (xs inner:List Int),qd2 xs [] 21=rows→(skwB (strB m (xs,((0:Nat):Int),inner))).2.1=(strG m ((([]:List Int),rows,()):SkD)).2.1:=fun m rows xs inner hs=>by
  have e1:strB m (xs,((0:Nat):Int),inner)=(xs,((0:Nat):Int),inner):=by
   cases m with
   | zero=>rfl
   | succ m=>unfold strB;rw [if_pos (by simp)]
  have e2:strG m ((([]:List Int),rows,()):SkD)=([],rows,()):=by
   cases m with
   | zero=>rfl
   | succ m=>rw [strG,if_pos (show ((([]:List Int),rows,()):SkD).1.length=0 from rfl)]
  rw [e1,e2];show qd2 xs (inner.take 0) 21=rows;rw [List.take_zero];exact hs
 induction m with
 | zero =>
  intro l rows xs inner n hn hl hB hx hb hs hsum
  cases n with
  | zero =>
   rw [List.take_zero] at hl;subst hl;exact base _ _ _ _ hs
  | succ k =>
   have hll:l.length=k+1:=by rw [hl,wao];omega
   have:=qk7 (t:=l) fun x hx=>(qby hB.shp x hx).1
   omega
 | succ m ih =>
  intro l rows xs inner n hn hl hB hx hb hs hsum
  cases n with
  | zero =>
   rw [List.take_zero] at hl;subst hl;exact base _ _ _ _ hs
  | succ k =>
   have hll:l.length=k+1:=by rw [hl,wao];omega
   have hc:=qxk hB.shp (by omega)
   have ek:(l.length:Int)-1=(k:Int):=by omega
   rw [ek] at hc;obtain ⟨c0,c1,c2,c3⟩:=qo1 hB.shp hc;rw [wad] at c2 c3;obtain ⟨R',r1,r2,r3,r4,r5⟩:=qpk hB hc hx hb;have eg:inner.getD k 0=l.getD k 0:=by rw [hl,qil (by omega)]
   have eG:strG (m+1) ((l,rows,()):SkD)=strG m (sldR ((l,rows,()):SkD) (k:Int)):=by
    rw [strG,if_neg (show ¬ ((l,rows,()):SkD).1.length=0 by show ¬ l.length=0;omega)]
    show strG m (sldR _ ((l.length:Int)-1))=_;rw [ek]
   have eB:strB (m+1) (xs,((k+1:Nat):Int),inner)=strB m (sldB xs ((k+1:Nat):Int) inner (k:Int)):=by
    have hn0:¬ (((k+1:Nat):Int)≤0):=by omega
    have ek2:((k+1:Nat):Int)-1=(k:Int):=by omega
    rw [strB];rw [if_neg hn0,ek2]
   rw [eB,eG,r1];have elen:lenP (k:Int) (l.length:Int) l=lenP (k:Int) ((k+1:Nat):Int) inner:=by
    unfold lenP;rw [wad,eg,hll]
   have epn:∃ p:Nat,lenP (k:Int) ((k+1:Nat):Int) inner=(p:Int)∧p≤k+1∧(p=k+1∨p=k):=by
    unfold lenP
    by_cases h1:inner.getD (k:Int).toNat 0=1
    ·rw [if_pos h1];exact ⟨k,rfl,by omega,.inr rfl⟩
    ·rw [if_neg h1];exact ⟨k+1,rfl,by omega,.inl rfl⟩
   obtain ⟨p,ep,hp,_⟩:=epn;have eS:sldB xs ((k+1:Nat):Int) inner (k:Int)=(slF (30-((k:Int)+(l.getD k 0-1))).toNat xs (k:Int) (l.getD k 0-1),(p:Int),inner.set k (l.getD k 0-1)):=by
    unfold sldB;rw [ep,wad,eg]
   rw [eS];rw [elen,ep,wad] at r2 r4 r5;rw [wad] at r3 r4 r5;have edec:(decI l (k:Int)).take p=(inner.set k (l.getD k 0-1)).take p:=by
    unfold decI;rw [wad];refine List.ext_getElem (by simp [hll];omega) fun i h1 h2=>?_
    have hi:i<p:=by rw [wao] at h1;omega
    rw [List.getElem_take,List.getElem_take,List.getElem_set,List.getElem_set];split
    ·rfl
    ·simp only [hl,List.getElem_take]
   rw [elen,ep,wad];refine ih _ _ _ _ p (by rw [wak];omega) edec r2 r3 r4 r5 ?_
   have h1:=qnu (l:=decI l (k:Int)) (p:=p) fun x hx=>by
    unfold decI at hx;rw [wad] at hx
    rcases List.mem_or_eq_of_mem_set hx with h | hq
    ·have:=qby hB.shp x h;omega
    ·rw [hq];omega
   have h2:=qm3 (l:=l) (r:=k) (v:=l.getD k 0-1) (by omega)
   unfold decI at h1 ⊢;rw [wad] at h1 ⊢;omega
theorem q72 (l:List Int) (rows:List (List Int)):∃ xs:List Int,xs.length=397∧∀ a b:Nat,a<22→b<18→bx xs a b=atR l rows a b:=by
 refine ⟨(List.range 397).map fun t=>atR l rows (t / 18) ((t % 18:Nat):Int),by simp,fun a b ha hb=>?_⟩
 unfold bx;have e:((a:Int)*18+(b:Int)).toNat=a*18+b:=by omega
 rw [e,waa,wab (by simp;omega)]
 simp only [List.getElem_map,List.getElem_range,Option.getD_some];rw [show (a*18+b) / 18=a by omega,show (a*18+b) % 18=b by omega]
theorem BedR.ok {l:List Int} {rows:List (List Int)} (h:BedR l rows):okRs ((l,rows,()):SkD):=by
 have h8:=(qal.1 h.shp).1;have:=h.l20;refine ⟨by show l.length≤1000;omega,by show rows.length≤1000;omega,fun r hr=>?_⟩
 obtain ⟨i,hi,rfl⟩:=List.getElem_of_mem hr;have ho:=Int.le_trans (qid h.dec i) h.o8;have h0:=(qaz h.shp i).1;have hi':i<rows.length:=hi;unfold outI at ho;rw [waa,wab hi'] at ho;simp only [Option.getD_some] at ho;show (rows[i]).length≤1000;omega
theorem q3x {l:List Int} {rows:List (List Int)} (h:BedR l rows) {row:Int} (hc:crnB l row=true):∃ l' R',sldR ((l,rows,()):SkD) row=(l',R',())∧BedR l' R'∧l'.sum≤l.sum-1:=by
 obtain ⟨xs,hx,hb⟩:=q72 l rows;obtain ⟨R',r1,r2,_⟩:=qpk h hc hx hb;obtain ⟨c0,c1,c2,c3⟩:=qo1 h.shp hc;refine ⟨_,R',r1,r2,?_⟩;have h1:=qnu (l:=decI l row) (p:=(lenP row (l.length:Int) l).toNat) fun x hx=>by
  unfold decI at hx
  rcases List.mem_or_eq_of_mem_set hx with h' | hq
  ·have:=qby h.shp x h';omega
  ·rw [hq];omega
 have h2:=qm3 (l:=l) (r:=row.toNat) (v:=l.getD row.toNat 0-1) (by omega)
 unfold decI at h1 ⊢;omega
theorem HoleR.len8 {l:List Int} {rows:List (List Int)} {i j:Nat} (h:HoleR l rows i j) (a:Nat):(rows.getD a []).length≤8:=by
 have h1:=qid h.dec a;have h2:=h.o8;have h3:=(h.fall a).1;unfold outI at h1 h2;omega
theorem qtp {t:SkD} (h:SkOk t.1 t.2.1):(qd5 t).isSome=true∧stX t=((strG 40 (qml t)).2.1,0,())∧∀ row,crnB t.1 row=true→slX t row=(sldR t row,0,()):=by
 have hr:(qd5 t).isSome=true:=(qnb (inner:=t.1) (rows:=t.2.1)).2 h;obtain ⟨xs,hx,hB,hbx,hok,hin⟩:=q7g hr;have hb:=qq8 h;have es:((t.1,t.2.1,()):SkD)=t:=rfl;refine ⟨hr,?_,fun row hc=>?_⟩
 ·unfold stX;rw [if_pos hr,hx,Option.getD_some];obtain ⟨R',t1,t2,t3,t4⟩:=qm5 hb;rw [es] at t1;rw [t1];have:=zcu 40 t.1 R' xs t.1 t.1.length (wae _) (by rw [wbl]) t2 hB.1 (fun a b ha hb'=>by rw [t3];exact hbx a b ha hb') (t4 xs hbx) (by have:=(qal.1 hb.shp).2.2;omega)
  rw [this]
 ·unfold slX;rw [if_pos ⟨hr,hc⟩,hx,Option.getD_some];obtain ⟨R',r1,r2,r3,r4,r5⟩:=qpk hb hc hB.1 hbx;rw [es] at r1;rw [r1];have:skwB (sldB xs (t.1.length:Int) t.1 row)=((decI t.1 row).take (lenP row (t.1.length:Int) t.1).toNat,R',()):=by
   have e:skwB (sldB xs (t.1.length:Int) t.1 row)=((decI t.1 row).take (lenP row (t.1.length:Int) t.1).toNat,qd2 (slF (30-(row+(t.1.getD row.toNat 0-1))).toNat xs row (t.1.getD row.toNat 0-1)) ((decI t.1 row).take (lenP row (t.1.length:Int) t.1).toNat) 21,()):=rfl;rw [e,r5]
  rw [this]
theorem qx7:∀ (m:Nat) (l:List Int) (rows:List (List Int)),BedR l rows→∃ l' R',strG m ((l,rows,()):SkD)=(l',R',())∧BedR l' R'
 | 0,l,rows,h=>⟨l,rows,rfl,h⟩
 | m+1,l,rows,h=>by
  by_cases h0:l.length=0
  ·exact ⟨l,rows,by rw [strG,if_pos (show ((l,rows,()):SkD).1.length=0 from h0)],h⟩
  ·obtain ⟨l',R',r1,r2,_⟩:=q3x h (qxk h.shp (by omega))
   obtain ⟨l2,R2,q1,q2⟩:=qx7 m l' R' r2;exact ⟨l2,R2,by rw [strG,if_neg (show ¬ ((l,rows,()):SkD).1.length=0 from h0),← q1,← r1],q2⟩
theorem BedR.small {l:List Int} {rows:List (List Int)} (h:BedR l rows):Ab.small l∧Ab.small rows∧∀ x,List.Mem x rows→Ab.small x:=by
 obtain ⟨h1,h2,h3⟩:=h.ok;have h1:l.length≤1000:=h1;have h2:rows.length≤1000:=h2;refine ⟨by unfold Ab.small;omega,by unfold Ab.small;omega,fun x hx=>?_⟩
 have:x.length≤1000:=h3 x hx;unfold Ab.small;omega
end
end Go.Schur
