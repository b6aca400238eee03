/- Slides: contracts. -/
import Derived.Test.YtobghbapmlnmoaaXR
set_option linter.unusedVariables false
set_option linter.unusedSimpArgs false
namespace Go.Schur
open Go Go.Ab Go.Proofs
noncomputable def cutF (s : SkD) : SkD:=(s.1.take 12,tabF s.2.1,())
noncomputable def con42 : Con:=mkC 42 [.d SkT] [SkT] (fun (s : SkD)=>[small s.1 ∧ small s.2.1]) (fun (s : SkD)=>(cutF s,()))
noncomputable def g42 (x0 : List Int × List (List Int) × Unit) : Option ((List Int × List (List Int) × Unit) × Unit):=gd (small x0.2.1) (some ((((List.take 12 x0.1,tabF x0.2.1,()) : List Int × List (List Int) × Unit),()) : (List Int × List (List Int) × Unit) × Unit))
noncomputable def g42_sh : List LSh:=([] : List LSh)
noncomputable def con44 : Con:=mkC 44 [.d SkT] [SkT] (fun (s : SkD)=>[small s.1 ∧ small s.2.1]) (fun (s : SkD)=>(cutF s,()))
noncomputable def g44 (x0 : List Int × List (List Int) × Unit) : Option ((List Int × List (List Int) × Unit) × Unit):=gd (small x0.2.1) (some ((((List.take 12 x0.1,tabF x0.2.1,()) : List Int × List (List Int) × Unit),()) : (List Int × List (List Int) × Unit) × Unit))
noncomputable def g44_sh : List LSh:=([] : List LSh)
def crnB (l:List Int) (row:Int) : Bool:=decide (0 ≤ row ∧ row < (l.length:Int) ∧ rowF l (row + 1) < rowF l row)
def trimK (n:Nat) (rows:List (List Int)) : Nat → Nat
 | 0=>0
 | m + 1=>if n < m + 1 ∧ (rows.getD m []).length = 0 then trimK n rows m else m + 1
def trimF (s : SkD) : SkD:=(trimZ s.1,s.2.1.take (trimK (trimZ s.1).length s.2.1 s.2.1.length),())
def atX (inner:List Int) (rows:List (List Int)) (i:Nat) (j:Int) : Int:=if 0 ≤ j - rowF inner i ∧ j - rowF inner i < ((rows.getD i []).length:Int) then el rows i (j - rowF inner i).toNat else 0
noncomputable def slR (inner:List Int) : Nat → List (List Int) → Nat → Int → List (List Int)
 | 0,rows,_,_=>rows
 | n + 1,rows,i,j=>if atX inner rows i (j + 1) = 0 ∧ atX inner rows (i + 1) j = 0 then rows.set i ((rows.getD i []).take (j - rowF inner i).toNat) else
   if 0 < atX inner rows (i + 1) j ∧ (atX inner rows i (j + 1) = 0 ∨ atX inner rows (i + 1) j ≤ atX inner rows i (j + 1)) then slR inner n (rows.set i ((rows.getD i []).set (j - rowF inner i).toNat (atX inner rows (i + 1) j))) (i + 1) j
   else slR inner n (rows.set i ((rows.getD i []).set (j - rowF inner i).toNat (atX inner rows i (j + 1)))) i (j + 1)
structure BedR (inner:List Int) (rows:List (List Int)) : Prop where
 shp : shapeB inner = true
 len : inner.length ≤ rows.length
 l20 : rows.length ≤ 20
 dec : ∀ i : Nat,outI inner rows (i + 1) ≤ outI inner rows i
 o8 : outI inner rows 0 ≤ 8
 ent : ∀ i j : Nat,j < (rows.getD i []).length → 1 ≤ el rows i j ∧ el rows i j ≤ 8
noncomputable def sldR (s : SkD) (row:Int) : SkD:=trimF (s.1.set row.toNat (s.1.getD row.toNat 0 - 1),slR (s.1.set row.toNat (s.1.getD row.toNat 0 - 1)) 40 (s.2.1.set row.toNat (0 :: s.2.1.getD row.toNat [])) row.toNat (s.1.getD row.toNat 0 - 1),())
noncomputable def strG : Nat → SkD → SkD
 | 0,s=>s
 | n + 1,s=>if s.1.length = 0 then s else strG n (sldR s ((s.1.length:Int) - 1))
noncomputable def sldB (xs:List Int) (len:Int) (inner:List Int) (row:Int) : List Int × Int × List Int:=(slF (30 - (row + (inner.getD row.toNat 0 - 1))).toNat xs row (inner.getD row.toNat 0 - 1),lenP row len inner,inner.set row.toNat (inner.getD row.toNat 0 - 1))
noncomputable def skwB (b : List Int × Int × List Int) : SkD:=(b.2.2.take b.2.1.toNat,skRows b.1 (b.2.2.take b.2.1.toNat) 21,())
noncomputable def slX (s : SkD) (row:Int) : SkD × Int × Unit:=if (readF s).isSome = true ∧ crnB s.1 row = true then (skwB (sldB ((readF s).getD []) (s.1.length:Int) s.1 row),0,()) else (([],[],()),2,())
noncomputable def con43a : Con:=mkC 43 [.d SkT,.d I64] [SkT,I64] (fun (s : SkD) (row:Int)=>[okRs s ∧ (readF s).isSome = true]) (fun (s : SkD) (row:Int)=>slX s row)
noncomputable def g43a (x0 : List Int × List (List Int) × Unit) (x1:Int) : Option ((List Int × List (List Int) × Unit) × Int × Unit):=gd (okRs ((x0.1,x0.2.1,()) : List Int × List (List Int) × Unit) ∧ Option.isSome (readF ((x0.1,x0.2.1,()) : List Int × List (List Int) × Unit)) = true) (gd (true = true → true = true ∧ true = true) (gd (true = true → inOk (↑(List.length x0.1):Int) x0.1) (gd (true = true → true = true) (gd (false = false → true = true) (bif !crnP x1 (↑(List.length x0.1):Int) x0.1 then some ((((([]:List Int),([]:List (List Int)),()) : List Int × List (List Int) × Unit),2,()) : (List Int × List (List Int) × Unit) × Int × Unit) else gd (bdB (Option.getD (readF ((x0.1,x0.2.1,()) : List Int × List (List Int) × Unit)) ([]:List Int)) ∧ inOk (↑(List.length x0.1):Int) x0.1 ∧ 0 ≤ x1 ∧ x1 < (↑(List.length x0.1):Int) ∧ 1 ≤ List.getD x0.1 (Int.toNat x1) 0) (gd (bdB (slF (Int.toNat (30 - (x1 + (List.getD x0.1 (Int.toNat x1) (0:Int) - 1)))) (Option.getD (readF ((x0.1,x0.2.1,()) : List Int × List (List Int) × Unit)) ([]:List Int)) x1 (List.getD x0.1 (Int.toNat x1) (0:Int) - 1)) ∧ inOk (↑(Int.toNat (lenP x1 (↑(List.length x0.1):Int) x0.1)):Int) (List.set x0.1 (Int.toNat x1) (List.getD x0.1 (Int.toNat x1) (0:Int) - 1))) (some ((((List.take (Int.toNat (lenP x1 (↑(List.length x0.1):Int) x0.1)) (List.set x0.1 (Int.toNat x1) (List.getD x0.1 (Int.toNat x1) (0:Int) - 1)),skRows (slF (Int.toNat (30 - (x1 + (List.getD x0.1 (Int.toNat x1) (0:Int) - 1)))) (Option.getD (readF ((x0.1,x0.2.1,()) : List Int × List (List Int) × Unit)) ([]:List Int)) x1 (List.getD x0.1 (Int.toNat x1) (0:Int) - 1)) (List.take (Int.toNat (lenP x1 (↑(List.length x0.1):Int) x0.1)) (List.set x0.1 (Int.toNat x1) (List.getD x0.1 (Int.toNat x1) (0:Int) - 1))) 21,()) : List Int × List (List Int) × Unit),0,()) : (List Int × List (List Int) × Unit) × Int × Unit))))))))
noncomputable def g43a_sh : List LSh:=([] : List LSh)
noncomputable def con43b : Con:=mkC 43 [.d SkT,.d I64] [SkT,I64] (fun (s : SkD) (row:Int)=>[okRs s ∧ (readF s).isSome = false]) (fun (s : SkD) (row:Int)=>slX s row)
noncomputable def g43b_sh : List LSh:=([] : List LSh)
noncomputable def strB : Nat → List Int × Int × List Int → List Int × Int × List Int
 | 0,b=>b
 | n + 1,b=>if b.2.1 ≤ 0 then b else strB n (sldB b.1 b.2.1 b.2.2 (b.2.1 - 1))
noncomputable def stX (s : SkD) : List (List Int) × Int × Unit:=if (readF s).isSome = true then ((skwB (strB 40 ((readF s).getD [],(s.1.length:Int),s.1))).2.1,0,()) else ([],2,())
noncomputable def con45a : Con:=mkC 45 [.d SkT] [LLI,I64] (fun (s : SkD)=>[okRs s ∧ (readF s).isSome = true]) (fun (s : SkD)=>stX s)
noncomputable def g45a (x0 : List Int × List (List Int) × Unit) : Option (List (List Int) × Int × Unit):=gd (okRs ((x0.1,x0.2.1,()) : List Int × List (List Int) × Unit) ∧ Option.isSome (readF ((x0.1,x0.2.1,()) : List Int × List (List Int) × Unit)) = true) (whileO (fun (d1 : List Int × Int × List Int × Unit)=>bif ilt 0 (↑(Int.toNat d1.2.1):Int) then gd (bdB d1.1 ∧ inOk (↑(Int.toNat d1.2.1):Int) d1.2.2.1 ∧ 0 ≤ wr .i64 ((↑(Int.toNat d1.2.1):Int) - 1) ∧ wr .i64 ((↑(Int.toNat d1.2.1):Int) - 1) < (↑(Int.toNat d1.2.1):Int) ∧ 1 ≤ List.getD d1.2.2.1 (Int.toNat (wr .i64 ((↑(Int.toNat d1.2.1):Int) - 1))) 0) (some (Lp.go ((slF (Int.toNat (30 - (wr .i64 ((↑(Int.toNat d1.2.1):Int) - 1) + (List.getD d1.2.2.1 (Int.toNat (wr .i64 ((↑(Int.toNat d1.2.1):Int) - 1))) (0:Int) - 1)))) d1.1 (wr .i64 ((↑(Int.toNat d1.2.1):Int) - 1)) (List.getD d1.2.2.1 (Int.toNat (wr .i64 ((↑(Int.toNat d1.2.1):Int) - 1))) (0:Int) - 1),(↑(Int.toNat (lenP (wr .i64 ((↑(Int.toNat d1.2.1):Int) - 1)) (↑(Int.toNat d1.2.1):Int) d1.2.2.1)):Int),List.set d1.2.2.1 (Int.toNat (wr .i64 ((↑(Int.toNat d1.2.1):Int) - 1))) (List.getD d1.2.2.1 (Int.toNat (wr .i64 ((↑(Int.toNat d1.2.1):Int) - 1))) (0:Int) - 1),()) : List Int × Int × List Int × Unit))) else gd (bdB d1.1 ∧ inOk (↑(Int.toNat d1.2.1):Int) d1.2.2.1) (some (Lp.out ((skRows d1.1 (List.take (Int.toNat d1.2.1) d1.2.2.1) 21,0,()) : List (List Int) × Int × Unit)))) ((Option.getD (readF ((x0.1,x0.2.1,()) : List Int × List (List Int) × Unit)) ([]:List Int),(↑(List.length x0.1):Int),x0.1,()) : List Int × Int × List Int × Unit))
noncomputable def g45a_sh : List LSh:=LSh.mk (((4,TV.ref (0) 1 0 0) : Nat × TV) :: ([] : List (Nat × TV))) (TB.mix (TV.sl (1) (1) (0) :: ([] : List TV)) (Ty.int IntKind.i64) :: TB.arr (Ty.int IntKind.i64) true :: ([] : List TB)) :: ([] : List LSh)
noncomputable def con45b : Con:=mkC 45 [.d SkT] [LLI,I64] (fun (s : SkD)=>[okRs s ∧ (readF s).isSome = false]) (fun (s : SkD)=>stX s)
noncomputable def con43 : Con:=mkC 43 [.d SkT,.d I64] [SkT,I64] (fun (s : SkD) (row:Int)=>[okRs s]) (fun (s : SkD) (row:Int)=>slX s row)
noncomputable def con45 : Con:=mkC 45 [.d SkT] [LLI,I64] (fun (s : SkD)=>[okRs s]) (fun (s : SkD)=>stX s)
end Go.Schur
set_option maxRecDepth 100000
namespace Go.Schur
open Go Go.Ab Go.Proofs
theorem goal42 : con42.goal Try.prog (spOf [con20,con32]) g42_sh [] lm30:=by
 have e : (∀ (s : SkD),(small s.1 ∧ small s.2.1) → g42 s = some (cutF s,())) = con42.goal Try.prog (spOf [con20,con32]) g42_sh [] lm30:=by kernel_rfl
 rw [← e]
 rintro s ⟨h1,h2⟩
 unfold g42 cutF
 rw [gd_pos h2]
theorem ok42 : con42.Ok Try.prog:=Con.of_goal mixed (okC ok20 (okC ok32 okN)) con42 goal42
theorem goal44 : con44.goal Try.prog (spOf [con20,con32]) g44_sh [] lm30:=by
 have e : (∀ (s : SkD),(small s.1 ∧ small s.2.1) → g44 s = some (cutF s,())) = con44.goal Try.prog (spOf [con20,con32]) g44_sh [] lm30:=by kernel_rfl
 rw [← e]
 rintro s ⟨h1,h2⟩
 unfold g44 cutF
 rw [gd_pos h2]
theorem ok44 : con44.Ok Try.prog:=Con.of_goal mixed (okC ok20 (okC ok32 okN)) con44 goal44
theorem Con.or {P : Program} {f : FuncId} {ats : List AT} {rs : List Ty} {pre1 pre2 pre : List AV → Option (List Prop)} {F : List AV → Option (Dens rs)} (h1 : Con.Ok P ⟨f,ats,rs,pre1,F⟩) (h2 : Con.Ok P ⟨f,ats,rs,pre2,F⟩)
  (h : ∀ env p,EnvOk (tsA ats) env → pre env = some p → Ab.allP p → (∃ q,pre1 env = some q ∧ Ab.allP q) ∨ (∃ q,pre2 env = some q ∧ Ab.allP q)) : Con.Ok P ⟨f,ats,rs,pre,F⟩ :=
 ⟨h1.1,fun Γ w env p r vs a b c d e g hf=>(h env p c d g).elim (fun ⟨q,q1,q2⟩=>h1.2 Γ w env q r vs a b c q1 e q2 hf) (fun ⟨q,q1,q2⟩=>h2.2 Γ w env q r vs a b c q1 e q2 hf)⟩
noncomputable def w43b (x0 : SkD) (x1:Int) : Option (SkD × Int × Unit):=gd (okRs ((x0.1,x0.2.1,()) : SkD)) (gd ((!!Option.isSome (readF ((x0.1,x0.2.1,()) : SkD))) = true → (!!Option.isSome (readF ((x0.1,x0.2.1,()) : SkD))) = true ∧ (!!Option.isSome (readF ((x0.1,x0.2.1,()) : SkD))) = true ∧ False) (gd ((!!Option.isSome (readF ((x0.1,x0.2.1,()) : SkD))) = true → (!!Option.isSome (readF ((x0.1,x0.2.1,()) : SkD))) = true ∧ False) (gd ((!Option.isSome (readF ((x0.1,x0.2.1,()) : SkD))) = true) (bif true then (some ((((([]:List Int),([]:List (List Int)),()) : SkD),(2:Int),()) : SkD × Int × Unit)) else none))))
theorem goal43b : con43b.goal Try.prog (spS [con80u,con87,con88,con89] []) g43b_sh [] lm30:=by
 have e : (∀ (s : SkD) (row:Int),(okRs s ∧ (readF s).isSome = false) → w43b s row = some (slX s row)) = con43b.goal Try.prog (spS [con80u,con87,con88,con89] []) g43b_sh [] lm30:=by kernel_rfl
 rw [← e]
 rintro s row ⟨h1,h2⟩
 have es : ((s.1,s.2.1,()) : SkD) = s:=rfl
 unfold w43b slX
 rw [es,gd_pos h1,h2]
 simp [gd_true]
theorem ok43b : con43b.Ok Try.prog:=Con.of_goalS mixed okN (okS ok80u (okS ok87 (okS ok88 (okS ok89 okS0)))) con43b goal43b
noncomputable def w45b (x0 : SkD) : Option (List (List Int) × Int × Unit):=gd (okRs ((x0.1,x0.2.1,()) : SkD)) (bif !Option.isSome (readF ((x0.1,x0.2.1,()) : SkD)) then some ((([]:List (List Int)),(2:Int),()) : List (List Int) × Int × Unit) else none)
def w45b_sh : List LSh:=[LSh.mk [(1,TV.v I64)] []]
theorem goal45b : con45b.goal Try.prog (spS [con80u,con88,con89] []) w45b_sh [] lm30:=by
 have e : (∀ (s : SkD),(okRs s ∧ (readF s).isSome = false) → w45b s = some (stX s)) = con45b.goal Try.prog (spS [con80u,con88,con89] []) w45b_sh [] lm30:=by kernel_rfl
 rw [← e]
 rintro s ⟨h1,h2⟩
 have es : ((s.1,s.2.1,()) : SkD) = s:=rfl
 unfold w45b stX
 rw [es,gd_pos h1,h2]
 simp [gd_true]
theorem ok45b : con45b.Ok Try.prog:=Con.of_goalS mixed okN (okS ok80u (okS ok88 (okS ok89 okS0))) con45b goal45b
end Go.Schur
set_option maxRecDepth 100000
namespace Go.Schur
open Go Go.Ab Go.Proofs
theorem out_le {inner : List Int} {rows : List (List Int)} (h : SkOk inner rows) : ∀ {a : Nat},a < rows.length → outI inner rows a ≤ 8
 | 0,ha=>by have:=(h.cnd 0 ha).le;rwa [if_pos rfl] at this
 | a + 1,ha=>by
  have:=(h.cnd (a + 1) ha).le
  rw [if_neg (by omega),show a + 1 - 1 = a by omega] at this
  have:=out_le h (a:=a) (by omega)
  omega
theorem row_in {rows : List (List Int)} {i : Nat} (h : 0 < (rows.getD i []).length) : i < rows.length:=by
 by_cases hi : i < rows.length
 ·exact hi
 ·rw [getD_none (by omega)] at h;exact absurd h (Nat.lt_irrefl 0)
theorem bed_of {s : SkD} (h : (readF s).isSome = true) : ∃ xs,readF s = some xs ∧ bdB xs ∧ (∀ a b : Nat,a < 22 → b < 18 → bx xs a b = atR s.1 s.2.1 a b) ∧ SkOk s.1 s.2.1 ∧ inOk (s.1.length:Int) s.1:=by
 obtain ⟨xs,hx⟩:=Option.isSome_iff_exists.1 h
 have hok : SkOk s.1 s.2.1:=(read_iff (inner:=s.1) (rows:=s.2.1)).1 h
 obtain ⟨hl,hb⟩:=read_box (inner:=s.1) (rows:=s.2.1) hx
 refine ⟨xs,hx,⟨hl,fun i j hi hj=>?_⟩,hb,hok,⟨by omega,by omega,?_,fun x hx=>?_⟩⟩
 ·rw [hb i j hi hj]
  unfold atR
  have hr:=shape_row hok.shp i
  split
  ·rename_i hq
   have hil:=row_in (rows:=s.2.1) (i:=i) (by omega)
   have he:=(hok.cnd i hil).ent ((j:Int) - rowF s.1 (i:Int)).toNat (by omega)
   have ho:=out_le hok hil
   unfold outI at ho
   have:=hok.l20
   exact ⟨by omega,by omega,fun _=>by omega⟩
  ·exact ⟨by omega,by omega,fun h=>absurd rfl h⟩
 ·have:=(shapeB_iff.1 hok.shp).1;omega
 ·have:=shape_mem hok.shp x hx;omega
theorem slF_bd : ∀ {n : Nat} {xs : List Int} {i j : Nat},bdB xs → i < 20 → j < 8 → bdB (slF n xs i j)
 | 0,xs,i,j,h,_,_=>h
 | n + 1,xs,i,j,h,hi,hj=>by
  have b1:=h.2 i (j + 1) (by omega) (by omega)
  have b2:=h.2 (i + 1) j (by omega) (by omega)
  have e1 : ((i:Int) + 1) = ((i + 1:Nat):Int):=by omega
  have e2 : ((j:Int) + 1) = ((j + 1:Nat):Int):=by omega
  unfold slF
  rw [e1,e2]
  by_cases hz : bx xs i ((j + 1:Nat):Int) = 0 ∧ bx xs ((i + 1:Nat):Int) j = 0
  ·rw [if_pos hz];exact bdB_set h hi hj (by omega)
  ·rw [if_neg hz]
   by_cases hd : 0 < bx xs ((i + 1:Nat):Int) j ∧ (bx xs i ((j + 1:Nat):Int) = 0 ∨ bx xs ((i + 1:Nat):Int) j ≤ bx xs i ((j + 1:Nat):Int))
   ·rw [if_pos hd]
    exact slF_bd (bdB_set h hi hj ⟨b2.1,b2.2.1⟩) (b2.2.2 (by omega)).1 hj
   ·rw [if_neg hd]
    exact slF_bd (bdB_set h hi hj ⟨b1.1,b1.2.1⟩) hi (b1.2.2 (by omega)).2
theorem crnP_eq {l : List Int} {row : Int} : crnP row (l.length:Int) l = crnB l row:=by
 unfold crnP crnB
 rw [Int.toNat_natCast,List.take_length]
theorem crn_pos {l : List Int} {row : Int} (hs : shapeB l = true) (h : crnB l row = true) : 0 ≤ row ∧ row < (l.length:Int) ∧ 1 ≤ l.getD row.toNat 0 ∧ l.getD row.toNat 0 ≤ 8:=by
 unfold crnB at h
 rw [decide_eq_true_eq] at h
 have:=shape_mem hs (l.getD row.toNat 0) (by rw [List.getD_eq_getElem?_getD,List.getElem?_eq_getElem (by omega)];exact List.getElem_mem _)
 omega
theorem in_set {l : List Int} {row : Int} (hl : l.length ≤ 20) (hb : ∀ x ∈ l,0 ≤ x ∧ x ≤ 8) (h0 : 0 ≤ row) (h1 : row < (l.length:Int)) {v : Int} (hv : 0 ≤ v ∧ v ≤ 8) : inOk (((lenP row (l.length:Int) l).toNat:Nat):Int) (l.set row.toNat v):=by
 refine ⟨by omega,?_,by rw [List.length_set];exact hl,fun x hx=>?_⟩
 ·rw [List.length_set];unfold lenP;split <;> omega
 ·rcases List.mem_or_eq_of_mem_set hx with h | h
  ·exact hb x h
  ·rw [h];exact hv
theorem goal43a : con43a.goal Try.prog (spS [con80,con87,con88,con89] []) g43a_sh [] lm30:=by
 have e : (∀ (s : SkD) (row:Int),(okRs s ∧ (readF s).isSome = true) → g43a s row = some (slX s row)) = con43a.goal Try.prog (spS [con80,con87,con88,con89] []) g43a_sh [] lm30:=by kernel_rfl
 rw [← e]
 rintro s row ⟨h1,h2⟩
 have es : ((s.1,s.2.1,()) : SkD) = s:=rfl
 obtain ⟨xs,hx,hB,hbx,hok,hin⟩:=bed_of h2
 unfold g43a slX
 rw [es,gd_pos ⟨h1,h2⟩,crnP_eq,hx]
 cases hc : crnB s.1 row with
 | false=>simp [gd_true,hin]
 | true =>
  obtain ⟨c0,c1,c2,c3⟩:=crn_pos hok.shp hc
  have c1n : row.toNat < s.1.length:=by omega
  have p1 : bdB xs ∧ inOk (s.1.length:Int) s.1 ∧ 0 ≤ row ∧ row < (s.1.length:Int) ∧ 1 ≤ s.1.getD row.toNat 0:=⟨hB,hin,c0,c1,c2⟩
  have hl8:=(shapeB_iff.1 hok.shp).1
  have p2 : bdB (slF (30 - (row + (s.1.getD row.toNat 0 - 1))).toNat xs row (s.1.getD row.toNat 0 - 1)):=by
   have:=slF_bd (n:=(30 - (row + (s.1.getD row.toNat 0 - 1))).toNat) (i:=row.toNat) (j:=(s.1.getD row.toNat 0 - 1).toNat) hB (by omega) (by omega)
   rwa [Int.toNat_of_nonneg (by omega),Int.toNat_of_nonneg (by omega)] at this
  have p3:=in_set (l:=s.1) (row:=row) (by omega) hin.2.2.2 c0 c1 (v:=s.1.getD row.toNat 0 - 1) (by omega)
  simp only [Option.isSome_some,Option.getD_some,Bool.not_true,Bool.not_false,cond_true,cond_false,gd_true,true_implies,true_and,and_self,if_true,hin,Bool.true_eq_false,false_implies,Bool.false_eq_true]
  rw [gd_pos ⟨hB,c0,c1,c2⟩,gd_pos ⟨p2,p3⟩]
  rfl
theorem ok43a : con43a.Ok Try.prog:=Con.of_goalS mixed okN (okS ok80 (okS ok87 (okS ok88 (okS ok89 okS0)))) con43a goal43a
theorem ok43 : con43.Ok Try.prog:=Con.or ok43a ok43b fun env p hE hp ha=>by
 match env,hE with
 | [_,_],⟨⟨x,rfl⟩,⟨y,rfl⟩,_⟩ =>
  have hp' : some [okRs x] = some p:=hp
  cases hp'
  have hx : okRs x:=Ab.allP_one.1 ha
  cases hq : (readF x).isSome with
  | true=>exact .inl ⟨_,rfl,Ab.allP_one.2 ⟨hx,hq⟩⟩
  | false=>exact .inr ⟨_,rfl,Ab.allP_one.2 ⟨hx,hq⟩⟩
end Go.Schur
set_option maxRecDepth 100000
namespace Go.Schur
open Go Go.Ab Go.Proofs
theorem sum_takeS {l : List Int} {k : Nat} (h : k < l.length) : (l.take (k + 1)).sum = (l.take k).sum + l.getD k 0:=by
 rw [List.take_add_one,List.sum_append,List.getElem?_eq_getElem h,List.getD_eq_getElem?_getD,List.getElem?_eq_getElem h]
 simp
theorem take_setS {l : List Int} {k : Nat} {v : Int} : (l.set k v).take k = l.take k:=by
 refine List.ext_getElem (by simp) fun i h1 h2=>?_
 have : i < k:=by simp at h2;omega
 rw [List.getElem_take,List.getElem_take,List.getElem_set_ne (by omega)]
theorem sum_pos {l : List Int} (h : ∀ x ∈ l,0 ≤ x) : 0 ≤ l.sum:=by
 induction l with
 | nil=>simp
 | cons x l ih =>
  rw [List.sum_cons]
  have:=h x (List.mem_cons_self ..)
  have:=ih fun y hy=>h y (List.mem_cons_of_mem _ hy)
  omega
abbrev D45:=List Int × Int × List Int × Unit
noncomputable def st45 (d1 : D45) : Option (Lp D45 (List (List Int) × Int × Unit)):=bif ilt (0) (↑(Int.toNat d1.2.1)) then gd (bdB d1.1 ∧ inOk (↑(Int.toNat d1.2.1)) d1.2.2.1 ∧ (0) ≤ wr .i64 ((↑(Int.toNat d1.2.1)) - (1)) ∧ wr .i64 ((↑(Int.toNat d1.2.1)) - (1)) < (↑(Int.toNat d1.2.1)) ∧ (1) ≤ List.getD d1.2.2.1 (Int.toNat (wr .i64 ((↑(Int.toNat d1.2.1)) - (1)))) (0)) (some (Lp.go ((slF (Int.toNat ((30) - (wr .i64 ((↑(Int.toNat d1.2.1)) - (1)) + (List.getD d1.2.2.1 (Int.toNat (wr .i64 ((↑(Int.toNat d1.2.1)) - (1)))) (0) - (1))))) d1.1 (wr .i64 ((↑(Int.toNat d1.2.1)) - (1))) (List.getD d1.2.2.1 (Int.toNat (wr .i64 ((↑(Int.toNat d1.2.1)) - (1)))) (0) - (1)),(↑(Int.toNat (lenP (wr .i64 ((↑(Int.toNat d1.2.1)) - (1))) (↑(Int.toNat d1.2.1)) d1.2.2.1))),List.set d1.2.2.1 (Int.toNat (wr .i64 ((↑(Int.toNat d1.2.1)) - (1)))) (List.getD d1.2.2.1 (Int.toNat (wr .i64 ((↑(Int.toNat d1.2.1)) - (1)))) (0) - (1)),()) : D45))) else gd (bdB d1.1 ∧ inOk (↑(Int.toNat d1.2.1)) d1.2.2.1) (some (Lp.out ((skRows d1.1 (List.take (Int.toNat d1.2.1) d1.2.2.1) (21:Nat),(0),()) : List (List Int) × Int × Unit)))
theorem loop45 : ∀ (m n:Nat) (xs inner:List Int),bdB xs → n ≤ inner.length → inner.length ≤ 20 → (∀ x ∈ inner,0 ≤ x ∧ x ≤ 8) → (∀ i,i < n → 1 ≤ inner.getD i 0) → (inner.take n).sum ≤ (m:Int) →
  whileO st45 ((xs,(n:Int),inner,()) : D45) = some ((skwB (strB m (xs,(n:Int),inner))).2.1,0,()):=by
 have base : ∀ (m:Nat) (xs inner:List Int),bdB xs → inner.length ≤ 20 → (∀ x ∈ inner,0 ≤ x ∧ x ≤ 8) → whileO st45 ((xs,((0:Nat):Int),inner,()) : D45) = some ((skwB (strB m (xs,((0:Nat):Int),inner))).2.1,0,()):=fun m xs inner hB h20 hb=>by
  have e : strB m (xs,((0:Nat):Int),inner) = (xs,((0:Nat):Int),inner):=by
   cases m with
   | zero=>rfl
   | succ m=>unfold strB;rw [if_pos (by simp)]
  rw [e]
  refine whileO_out ?_
  unfold st45
  simp only [Int.toNat_natCast]
  rw [cond_f (ilt_false.2 (by omega)),gd_pos ⟨hB,by omega,by omega,h20,hb⟩]
  rfl
 intro m
 induction m with
 | zero =>
  intro n xs inner hB hn h20 hb h1 hs
  cases n with
  | zero=>exact base _ _ _ hB h20 hb
  | succ k =>
   rw [sum_takeS (by omega)] at hs
   have:=h1 k (by omega)
   have:=sum_pos (l:=inner.take k) fun x hx=>(hb x (List.mem_of_mem_take hx)).1
   omega
 | succ m ih =>
  intro n xs inner hB hn h20 hb h1 hs
  cases n with
  | zero=>exact base _ _ _ hB h20 hb
  | succ k =>
   have hv:=h1 k (by omega)
   have hv8:=hb (inner.getD k 0) (by rw [List.getD_eq_getElem?_getD,List.getElem?_eq_getElem (by omega)];exact List.getElem_mem _)
   have w : wr .i64 (((k + 1:Nat):Int) - 1) = (k:Int):=by rw [wr_id (by omega)];omega
   rw [sum_takeS (by omega)] at hs
   have hn0 : ¬ (((k + 1:Nat):Int) ≤ 0):=by omega
   have ek : ((k + 1:Nat):Int) - 1 = (k:Int):=by omega
   have hslb : bdB (slF (30 - ((k:Int) + (inner.getD k 0 - 1))).toNat xs (k:Int) (inner.getD k 0 - 1)):=by
    have:=slF_bd (n:=(30 - ((k:Int) + (inner.getD k 0 - 1))).toNat) (i:=k) (j:=(inner.getD k 0 - 1).toNat) hB (by omega) (by omega)
    rwa [Int.toNat_of_nonneg (by omega)] at this
   have hset : ∀ x ∈ inner.set k (inner.getD k 0 - 1),0 ≤ x ∧ x ≤ 8:=fun x hx=>by
    rcases List.mem_or_eq_of_mem_set hx with h | h
    ·exact hb x h
    ·rw [h];omega
   have hget : ∀ i,(inner.set k (inner.getD k 0 - 1)).getD i 0 = if k = i then inner.getD k 0 - 1 else inner.getD i 0:=fun i=>by
    by_cases h : k = i
    ·subst h
     rw [if_pos rfl,List.getD_eq_getElem?_getD,List.getElem?_set_self (by omega)];rfl
    ·rw [if_neg h,List.getD_eq_getElem?_getD,List.getElem?_set_ne h,← List.getD_eq_getElem?_getD]
   have eB : strB (m + 1) (xs,((k + 1:Nat):Int),inner) = strB m (sldB xs ((k + 1:Nat):Int) inner (k:Int)):=by
    rw [strB]
    rw [if_neg hn0,ek]
   rw [eB]
   by_cases hone : inner.getD k 0 = 1
   ·have eS : sldB xs ((k + 1:Nat):Int) inner (k:Int) = (slF (30 - ((k:Int) + (inner.getD k 0 - 1))).toNat xs (k:Int) (inner.getD k 0 - 1),(k:Int),inner.set k (inner.getD k 0 - 1)):=by
     unfold sldB lenP
     rw [Int.toNat_natCast,if_pos hone]
    rw [eS]
    refine (whileO_go (s':=(((slF (30 - ((k:Int) + (inner.getD k 0 - 1))).toNat xs (k:Int) (inner.getD k 0 - 1),(k:Int),inner.set k (inner.getD k 0 - 1),()) : D45))) ?_).trans (ih k _ _ hslb (by rw [List.length_set];omega) (by rw [List.length_set];exact h20) hset (fun i hi=>by rw [hget,if_neg (by omega)];exact h1 i (by omega)) (by rw [take_setS];omega))
    unfold st45
    simp only [Int.toNat_natCast,w]
    rw [cond_t (ilt_iff.2 (by omega)),gd_pos ⟨hB,⟨by omega,by omega,h20,hb⟩,by omega,by omega,hv⟩]
    unfold lenP
    rw [Int.toNat_natCast,if_pos hone,Int.toNat_natCast]
   ·have eS : sldB xs ((k + 1:Nat):Int) inner (k:Int) = (slF (30 - ((k:Int) + (inner.getD k 0 - 1))).toNat xs (k:Int) (inner.getD k 0 - 1),((k + 1:Nat):Int),inner.set k (inner.getD k 0 - 1)):=by
     unfold sldB lenP
     rw [Int.toNat_natCast,if_neg hone]
    rw [eS]
    refine (whileO_go (s':=(((slF (30 - ((k:Int) + (inner.getD k 0 - 1))).toNat xs (k:Int) (inner.getD k 0 - 1),((k + 1:Nat):Int),inner.set k (inner.getD k 0 - 1),()) : D45))) ?_).trans (ih (k + 1) _ _ hslb (by rw [List.length_set];omega) (by rw [List.length_set];exact h20) hset (fun i hi=>by rw [hget];split;omega;exact h1 i (by omega)) (by rw [sum_takeS (by rw [List.length_set];omega),take_setS,hget,if_pos rfl];omega))
    unfold st45
    simp only [Int.toNat_natCast,w]
    rw [cond_t (ilt_iff.2 (by omega)),gd_pos ⟨hB,⟨by omega,by omega,h20,hb⟩,by omega,by omega,hv⟩]
    unfold lenP
    rw [Int.toNat_natCast,if_neg hone,Int.toNat_natCast]
theorem goal45a : con45a.goal Try.prog (spS [con80,con88,con89] []) g45a_sh [] lm30:=by
 have e : (∀ (s : SkD),(okRs s ∧ (readF s).isSome = true) → g45a s = some (stX s)) = con45a.goal Try.prog (spS [con80,con88,con89] []) g45a_sh [] lm30:=by kernel_rfl
 rw [← e]
 rintro s ⟨h1,h2⟩
 have es : ((s.1,s.2.1,()) : SkD) = s:=rfl
 obtain ⟨xs,hx,hB,hbx,hok,hin⟩:=bed_of h2
 unfold g45a stX
 rw [es,gd_pos ⟨h1,h2⟩,if_pos h2,hx]
 have hl8:=(shapeB_iff.1 hok.shp).1
 have:=loop45 40 s.1.length xs s.1 hB (Nat.le_refl _) (by omega) hin.2.2.2 (fun i hi=>(shape_mem hok.shp (s.1.getD i 0) (by rw [List.getD_eq_getElem?_getD,List.getElem?_eq_getElem hi];exact List.getElem_mem _)).1) (by rw [List.take_length];have:=(shapeB_iff.1 hok.shp).2.2;omega)
 exact this
theorem ok45a : con45a.Ok Try.prog:=Con.of_goalS mixed okN (okS ok80 (okS ok88 (okS ok89 okS0))) con45a goal45a
theorem ok45 : con45.Ok Try.prog:=Con.or ok45a ok45b fun env p hE hp ha=>by
 match env,hE with
 | [_],⟨⟨x,rfl⟩,_⟩ =>
  have hp' : some [okRs x] = some p:=hp
  cases hp'
  have hx : okRs x:=Ab.allP_one.1 ha
  cases hq : (readF x).isSome with
  | true=>exact .inl ⟨_,rfl,Ab.allP_one.2 ⟨hx,hq⟩⟩
  | false=>exact .inr ⟨_,rfl,Ab.allP_one.2 ⟨hx,hq⟩⟩
end Go.Schur
set_option maxRecDepth 100000
namespace Go.Schur
open Go Go.Ab Go.Proofs
theorem atX_eq {inner : List Int} {rows : List (List Int)} {i : Nat} {j : Int} : atX inner rows i j = atR inner rows i j:=by
 unfold atX atR
 by_cases h : rowF inner (i:Int) ≤ j ∧ j < rowF inner (i:Int) + ((rows.getD i []).length:Int)
 ·rw [if_pos h,if_pos (by omega)]
 ·rw [if_neg h,if_neg (by omega)]
theorem getD_setR {rows : List (List Int)} {i a : Nat} (hi : i < rows.length) {r : List Int} : (rows.set i r).getD a [] = if a = i then r else rows.getD a []:=by
 by_cases h : a = i
 ·subst h;rw [if_pos rfl,List.getD_eq_getElem?_getD,List.getElem?_set_self hi];rfl
 ·rw [if_neg h,List.getD_eq_getElem?_getD,List.getElem?_set_ne (fun e=>h e.symm),← List.getD_eq_getElem?_getD]
theorem len_setR {rows : List (List Int)} {i a c : Nat} (hi : i < rows.length) {v : Int} : ((rows.set i ((rows.getD i []).set c v)).getD a []).length = (rows.getD a []).length:=by
 rw [getD_setR hi]
 split
 ·rename_i h;subst h;rw [List.length_set]
 ·rfl
theorem el_setR {rows : List (List Int)} {i a b c : Nat} (hi : i < rows.length) (hc : c < (rows.getD i []).length) {v : Int} : el (rows.set i ((rows.getD i []).set c v)) a b = if a = i ∧ b = c then v else el rows a b:=by
 unfold el
 rw [getD_setR hi]
 by_cases h : a = i
 ·subst h
  rw [if_pos rfl]
  by_cases hb : b = c
  ·subst hb
   rw [if_pos ⟨rfl,rfl⟩,List.getD_eq_getElem?_getD,List.getElem?_set_self hc];rfl
  ·rw [if_neg (fun h=>hb h.2),List.getD_eq_getElem?_getD,List.getElem?_set_ne (fun e=>hb e.symm),← List.getD_eq_getElem?_getD]
 ·rw [if_neg h,if_neg (fun hh=>h hh.1)]
structure HoleR (inner:List Int) (rows:List (List Int)) (i j:Nat) : Prop where
 fall : ∀ a : Nat,0 ≤ rowF inner (a:Int) ∧ rowF inner ((a + 1:Nat):Int) ≤ rowF inner (a:Int)
 l20 : rows.length ≤ 20
 dec : ∀ a : Nat,outI inner rows (a + 1) ≤ outI inner rows a
 o8 : outI inner rows 0 ≤ 8
 lt : i < rows.length
 lo : rowF inner (i:Int) ≤ (j:Int)
 hi : (j:Int) < outI inner rows i
 ent : ∀ a b : Nat,b < (rows.getD a []).length → 0 ≤ el rows a b ∧ el rows a b ≤ 8 ∧ (¬ (a = i ∧ rowF inner (i:Int) + (b:Int) = (j:Int)) → 1 ≤ el rows a b)
structure DoneR (inner:List Int) (rows:List (List Int)) : Prop where
 dec : ∀ a : Nat,outI inner rows (a + 1) ≤ outI inner rows a
 o8 : outI inner rows 0 ≤ 8
 ent : ∀ a b : Nat,b < (rows.getD a []).length → 1 ≤ el rows a b ∧ el rows a b ≤ 8
theorem out_mono {inner : List Int} {rows : List (List Int)} (h : ∀ a : Nat,outI inner rows (a + 1) ≤ outI inner rows a) : ∀ a : Nat,outI inner rows a ≤ outI inner rows 0
 | 0=>Int.le_refl _
 | a + 1=>Int.le_trans (h a) (out_mono h a)
theorem HoleR.at_pos {inner : List Int} {rows : List (List Int)} {i j : Nat} (h : HoleR inner rows i j) {a b : Nat} (hn : ¬ (a = i ∧ b = j)) (h1 : rowF inner (a:Int) ≤ (b:Int)) (h2 : (b:Int) < outI inner rows a) : 1 ≤ atR inner rows a b ∧ atR inner rows a b ≤ 8:=by
 unfold outI at h2
 unfold atR
 rw [if_pos ⟨h1,h2⟩]
 have:=h.ent a ((b:Int) - rowF inner (a:Int)).toNat (by omega)
 refine ⟨this.2.2 fun hh=>hn ⟨hh.1,?_⟩,this.2.1⟩
 have:=hh.1
 subst this
 omega
theorem at_in {inner : List Int} {rows : List (List Int)} {a : Nat} {b : Int} (h : atR inner rows a b ≠ 0) : rowF inner (a:Int) ≤ b ∧ b < outI inner rows a ∧ a < rows.length:=by
 unfold atR at h
 by_cases hq : rowF inner (a:Int) ≤ b ∧ b < rowF inner (a:Int) + ((rows.getD a []).length:Int)
 ·exact ⟨hq.1,hq.2,row_in (by omega)⟩
 ·rw [if_neg hq] at h;exact absurd rfl h
theorem at_setR {inner : List Int} {rows : List (List Int)} {i a b c j : Nat} (hi : i < rows.length) (hc : c < (rows.getD i []).length) (hj : rowF inner (i:Int) + (c:Int) = (j:Int)) {v : Int} : atR inner (rows.set i ((rows.getD i []).set c v)) a b = if a = i ∧ b = j then v else atR inner rows a b:=by
 unfold atR
 rw [len_setR hi,el_setR hi hc]
 by_cases h : a = i ∧ b = j
 ·obtain ⟨rfl,rfl⟩:=h
  have q1 : rowF inner (a:Int) ≤ (b:Int) ∧ (b:Int) < rowF inner (a:Int) + ((rows.getD a []).length:Int):=by omega
  have q2 : a = a ∧ ((b:Int) - rowF inner (a:Int)).toNat = c:=⟨rfl,by omega⟩
  have q3 : a = a ∧ b = b:=⟨rfl,rfl⟩
  rw [if_pos q1,if_pos q2,if_pos q3]
 ·rw [if_neg h]
  by_cases hq : rowF inner (a:Int) ≤ (b:Int) ∧ (b:Int) < rowF inner (a:Int) + ((rows.getD a []).length:Int)
  ·rw [if_pos hq,if_pos hq,if_neg]
   rintro ⟨rfl,h2⟩
   exact h ⟨rfl,by omega⟩
  ·rw [if_neg hq,if_neg hq]
theorem out_setR {inner : List Int} {rows : List (List Int)} {i a c : Nat} (hi : i < rows.length) {v : Int} : outI inner (rows.set i ((rows.getD i []).set c v)) a = outI inner rows a:=by
 unfold outI
 rw [len_setR hi]
theorem HoleR.move {inner : List Int} {rows : List (List Int)} {i j i' j' c : Nat} (h : HoleR inner rows i j) (hc : rowF inner (i:Int) + (c:Int) = (j:Int)) (hcl : c < (rows.getD i []).length) {v : Int} (hv : 1 ≤ v ∧ v ≤ 8) (hl : i' < rows.length) (hlo : rowF inner (i':Int) ≤ (j':Int)) (hhi : (j':Int) < outI inner rows i') :
  HoleR inner (rows.set i ((rows.getD i []).set c v)) i' j' where
 fall:=h.fall
 l20:=by rw [List.length_set];exact h.l20
 dec:=fun a=>by rw [out_setR h.lt,out_setR h.lt];exact h.dec a
 o8:=by rw [out_setR h.lt];exact h.o8
 lt:=by rw [List.length_set];exact hl
 lo:=hlo
 hi:=by rw [out_setR h.lt];exact hhi
 ent:=fun a b hb=>by
  rw [len_setR h.lt] at hb
  rw [el_setR h.lt hcl]
  have:=h.ent a b hb
  by_cases hq : a = i ∧ b = c
  ·rw [if_pos hq];omega
  ·rw [if_neg hq]
   exact ⟨this.1,this.2.1,fun _=>this.2.2 fun hh=>hq ⟨hh.1,by omega⟩⟩
theorem slide_eq {inner : List Int} : ∀ (n m:Nat) (rows:List (List Int)) (xs:List Int) (i j:Nat),28 ≤ n + i + j → 28 ≤ m + i + j → HoleR inner rows i j → xs.length = 397 → (∀ a b : Nat,a < 22 → b < 18 → bx xs a b = atR inner rows a b) →
  DoneR inner (slR inner m rows i j) ∧ (slR inner m rows i j).length = rows.length ∧ (slF n xs i j).length = 397 ∧ ∀ a b : Nat,a < 22 → b < 18 → bx (slF n xs i j) a b = atR inner (slR inner m rows i j) a b:=by
 intro n
 induction n with
 | zero =>
  intro m rows xs i j hn hm h hl hb
  have:=h.lt;have:=h.l20;have:=out_mono h.dec i;have:=h.o8;have:=h.hi
  omega
 | succ n ih =>
  intro m rows xs i j hn hm h hl hb
  have b1:=h.lt
  have b2:=h.l20
  have b3:=out_mono h.dec i
  have b4:=h.o8
  have b5:=h.hi
  have b6:=h.lo
  have b7:=h.fall i
  obtain ⟨m,rfl⟩ : ∃ k,m = k + 1:=⟨m - 1,by omega⟩
  obtain ⟨c,hc⟩ : ∃ c : Nat,rowF inner (i:Int) + (c:Int) = (j:Int):=⟨((j:Int) - rowF inner (i:Int)).toNat,by omega⟩
  have hcl : c < (rows.getD i []).length:=by unfold outI at b5;omega
  have ec : ((j:Int) - rowF inner (i:Int)).toNat = c:=by omega
  have e1 : ((i:Int) + 1) = ((i + 1:Nat):Int):=by omega
  have e2 : ((j:Int) + 1) = ((j + 1:Nat):Int):=by omega
  have hR:=hb i (j + 1) (by omega) (by omega)
  have hD:=hb (i + 1) j (by omega) (by omega)
  have pR:=h.at_pos (a:=i) (b:=j + 1) (by omega) (by omega)
  have pD:=h.at_pos (a:=i + 1) (b:=j) (by omega) (by omega)
  unfold slF slR
  rw [e1,e2,hR,hD,atX_eq,atX_eq,ec]
  generalize hvr : atR inner rows i ((j + 1:Nat):Int) = vr at *
  generalize hvd : atR inner rows (i + 1) (j:Int) = vd at *
  have iR : vr ≠ 0 → rowF inner (i:Int) ≤ ((j + 1:Nat):Int) ∧ ((j + 1:Nat):Int) < outI inner rows i ∧ i < rows.length:=fun hh=>at_in (by rw [hvr];exact hh)
  have iD : vd ≠ 0 → rowF inner ((i + 1:Nat):Int) ≤ (j:Int) ∧ (j:Int) < outI inner rows (i + 1) ∧ i + 1 < rows.length:=fun hh=>at_in (by rw [hvd];exact hh)
  have step : ∀ v : Int,∀ a b : Nat,a < 22 → b < 18 → bx (xs.set ((i:Int) * 18 + (j:Int)).toNat v) a b = atR inner (rows.set i ((rows.getD i []).set c v)) a b:=fun v a b ha hb'=>by
   rw [bx_set (by omega) hb' hl (by omega),at_setR b1 hcl hc,hb a b ha hb']
  by_cases hz : vr = 0 ∧ vd = 0
  ·rw [if_pos hz,if_pos hz]
   have hout : outI inner rows i = (j:Int) + 1:=by
    by_cases hh : ((j + 1:Nat):Int) < outI inner rows i
    ·have:=pR hh;omega
    ·omega
   have hlen : (rows.getD i []).length = c + 1:=by unfold outI at hout;omega
   have hdn : outI inner rows (i + 1) ≤ (j:Int):=by
    by_cases hh : (j:Int) < outI inner rows (i + 1)
    ·have:=pD hh;omega
    ·omega
   have lenT : ∀ a,((rows.set i ((rows.getD i []).take c)).getD a []).length = if a = i then c else (rows.getD a []).length:=fun a=>by
    rw [getD_setR b1]
    split
    ·rw [List.length_take];omega
    ·rfl
   have elT : ∀ a b,b < ((rows.set i ((rows.getD i []).take c)).getD a []).length → el (rows.set i ((rows.getD i []).take c)) a b = el rows a b:=fun a b hb'=>by
    rw [lenT] at hb'
    unfold el
    rw [getD_setR b1]
    by_cases ha : a = i
    ·rw [if_pos ha] at hb'
     rw [if_pos ha,ha,List.getD_eq_getElem?_getD,List.getElem?_take_of_lt hb',← List.getD_eq_getElem?_getD]
    ·rw [if_neg ha]
   have outT : ∀ a,outI inner (rows.set i ((rows.getD i []).take c)) a = if a = i then (j:Int) else outI inner rows a:=fun a=>by
    unfold outI
    rw [lenT]
    by_cases ha : a = i
    ·rw [if_pos ha,if_pos ha,ha];exact hc
    ·rw [if_neg ha,if_neg ha]
   refine ⟨⟨fun a=>?_,?_,fun a b hb'=>?_⟩,by rw [List.length_set],by rw [List.length_set];exact hl,fun a b ha hb'=>?_⟩
   ·rw [outT,outT]
    have:=h.dec a
    by_cases h1 : a + 1 = i
    ·rw [if_pos h1,if_neg (by omega)];rw [h1] at this;omega
    ·rw [if_neg h1]
     by_cases h2 : a = i
     ·rw [if_pos h2,h2];exact hdn
     ·rw [if_neg h2];exact this
   ·rw [outT];split <;> omega
   ·rw [elT a b hb']
    rw [lenT] at hb'
    have hb2 : b < (rows.getD a []).length:=by
     by_cases ha : a = i
     ·rw [if_pos ha] at hb';rw [ha];omega
     ·rw [if_neg ha] at hb';exact hb'
    have:=h.ent a b hb2
    refine ⟨this.2.2 fun hh=>?_,this.2.1⟩
    rw [if_pos hh.1] at hb'
    omega
   ·rw [bx_set (by omega) hb' hl (by omega),hb a b ha hb']
    unfold atR
    rw [lenT]
    by_cases ha : a = i
    ·rw [if_pos ha,ha]
     by_cases hbj : b = j
     ·rw [if_pos ⟨rfl,hbj⟩,if_neg (by omega)]
     ·rw [if_neg (fun hh=>hbj hh.2)]
      by_cases hq : rowF inner (i:Int) ≤ (b:Int) ∧ (b:Int) < rowF inner (i:Int) + (c:Int)
      ·rw [if_pos hq,if_pos (by omega),elT i _ (by rw [lenT,if_pos rfl];omega)]
      ·rw [if_neg hq,if_neg (by omega)]
    ·rw [if_neg ha,if_neg (fun hh=>ha hh.1)]
     by_cases hq : rowF inner (a:Int) ≤ (b:Int) ∧ (b:Int) < rowF inner (a:Int) + ((rows.getD a []).length:Int)
     ·rw [if_pos hq,if_pos hq,elT a _ (by rw [lenT,if_neg ha];omega)]
     ·rw [if_neg hq,if_neg hq]
  ·rw [if_neg hz,if_neg hz]
   by_cases hd : 0 < vd ∧ (vr = 0 ∨ vd ≤ vr)
   ·rw [if_pos hd,if_pos hd]
    have q:=iD (by omega)
    have p:=pD q.2.1
    have:=ih m _ _ (i + 1) j (by omega) (by omega) (h.move hc hcl (v:=vd) p q.2.2 q.1 q.2.1) (by rw [List.length_set];exact hl) (step vd)
    rw [List.length_set] at this
    exact this
   ·rw [if_neg hd,if_neg hd]
    have hd0 : 0 ≤ vd:=by
     by_cases hh : vd = 0
     ·omega
     ·have:=pD (iD hh).2.1;omega
    have hr0 : vr ≠ 0:=fun hh=>by
     have : vd ≠ 0:=fun h0=>hz ⟨hh,h0⟩
     exact hd ⟨by omega,.inl hh⟩
    have q:=iR hr0
    have p:=pR q.2.1
    have:=ih m _ _ i (j + 1) (by omega) (by omega) (h.move hc hcl (v:=vr) p q.2.2 q.1 q.2.1) (by rw [List.length_set];exact hl) (step vr)
    rw [List.length_set] at this
    exact this
end Go.Schur
set_option maxRecDepth 100000
namespace Go.Schur
open Go Go.Ab Go.Proofs
def decI (l:List Int) (row:Int) : List Int:=l.set row.toNat (l.getD row.toNat 0 - 1)
def holeI (rows:List (List Int)) (row:Int) : List (List Int):=rows.set row.toNat (0 :: rows.getD row.toNat [])
theorem dec_row {l : List Int} {row : Int} (h0 : 0 ≤ row) (h1 : row < (l.length:Int)) {a : Nat} : rowF (decI l row) (a:Int) = if a = row.toNat then l.getD row.toNat 0 - 1 else rowF l (a:Int):=by
 rw [rowF_nat,rowF_nat]
 unfold decI
 by_cases h : a = row.toNat
 ·rw [if_pos h,h,List.getD_eq_getElem?_getD,List.getElem?_set_self (by omega)];rfl
 ·rw [if_neg h,List.getD_eq_getElem?_getD,List.getElem?_set_ne (fun e=>h e.symm),← List.getD_eq_getElem?_getD]
theorem hole_len {rows : List (List Int)} {row : Int} (h : row.toNat < rows.length) {a : Nat} : ((holeI rows row).getD a []).length = if a = row.toNat then (rows.getD a []).length + 1 else (rows.getD a []).length:=by
 unfold holeI
 rw [getD_setR h]
 split
 ·rename_i hq;rw [List.length_cons,hq]
 ·rfl
theorem hole_el {rows : List (List Int)} {row : Int} (h : row.toNat < rows.length) {a b : Nat} : el (holeI rows row) a b = if a = row.toNat then (if b = 0 then 0 else el rows a (b - 1)) else el rows a b:=by
 unfold holeI el
 rw [getD_setR h]
 by_cases ha : a = row.toNat
 ·rw [if_pos ha,if_pos ha,ha]
  cases b with
  | zero=>rfl
  | succ b=>rw [if_neg (by omega)];simp
 ·rw [if_neg ha,if_neg ha]
theorem hole_of {l : List Int} {rows : List (List Int)} (h : BedR l rows) {row : Int} (hc : crnB l row = true) : HoleR (decI l row) (holeI rows row) row.toNat (l.getD row.toNat 0 - 1).toNat ∧ ∀ a b : Nat,atR (decI l row) (holeI rows row) a b = atR l rows a b:=by
 obtain ⟨c0,c1,c2,c3⟩:=crn_pos h.shp hc
 have hlen:=h.len
 have hr : row.toNat < rows.length:=by omega
 have hrow : rowF l ((row.toNat:Nat):Int) = l.getD row.toNat 0:=rowF_nat ..
 have hcorner : rowF l ((row.toNat + 1:Nat):Int) < l.getD row.toNat 0:=by
  unfold crnB at hc
  rw [decide_eq_true_eq] at hc
  have e : row + 1 = ((row.toNat + 1:Nat):Int):=by omega
  have e2 : rowF l row = rowF l ((row.toNat:Nat):Int):=by rw [Int.toNat_of_nonneg c0]
  rw [e,e2,hrow] at hc
  exact hc.2.2
 have hout : ∀ a,outI (decI l row) (holeI rows row) a = outI l rows a:=fun a=>by
  unfold outI
  rw [dec_row c0 c1,hole_len hr]
  by_cases ha : a = row.toNat
  ·rw [if_pos ha,if_pos ha,ha,hrow];omega
  ·rw [if_neg ha,if_neg ha]
 refine ⟨⟨fun a=>?_,?_,fun a=>?_,?_,?_,?_,?_,fun a b hb=>?_⟩,fun a b=>?_⟩
 ·rw [dec_row c0 c1,dec_row c0 c1]
  have s:=shape_row h.shp a
  by_cases h1 : a = row.toNat
  ·rw [if_pos h1,if_neg (by omega),h1];omega
  ·rw [if_neg h1]
   by_cases h2 : a + 1 = row.toNat
   ·rw [if_pos h2];rw [h2,hrow] at s;omega
   ·rw [if_neg h2];omega
 ·unfold holeI;rw [List.length_set];exact h.l20
 ·rw [hout,hout];exact h.dec a
 ·rw [hout];exact h.o8
 ·unfold holeI;rw [List.length_set];exact hr
 ·rw [dec_row c0 c1,if_pos rfl];omega
 ·rw [hout];unfold outI;rw [hrow];omega
 ·rw [hole_len hr] at hb
  rw [hole_el hr,dec_row c0 c1,if_pos rfl]
  by_cases ha : a = row.toNat
  ·rw [if_pos ha] at hb ⊢
   by_cases hb0 : b = 0
   ·rw [if_pos hb0]
    refine ⟨by omega,by omega,fun hh=>absurd ⟨ha,by omega⟩ hh⟩
   ·rw [if_neg hb0]
    have:=h.ent a (b - 1) (by omega)
    omega
  ·rw [if_neg ha] at hb ⊢
   have:=h.ent a b hb
   omega
 ·unfold atR
  rw [dec_row c0 c1,hole_len hr]
  by_cases ha : a = row.toNat
  ·rw [if_pos ha,if_pos ha,hole_el hr,if_pos ha]
   have e : rowF l (a:Int) = l.getD row.toNat 0:=by rw [ha];exact hrow
   rw [e]
   by_cases h1 : l.getD row.toNat 0 ≤ (b:Int) ∧ (b:Int) < l.getD row.toNat 0 + ((rows.getD a []).length:Int)
   ·rw [if_pos h1,if_pos (by omega),if_neg (by omega)]
    congr 1
    omega
   ·rw [if_neg h1]
    by_cases h2 : l.getD row.toNat 0 - 1 ≤ (b:Int) ∧ (b:Int) < l.getD row.toNat 0 - 1 + (((rows.getD a []).length + 1:Nat):Int)
    ·rw [if_pos h2,if_pos (by omega)]
    ·rw [if_neg h2]
  ·rw [if_neg ha,if_neg ha,hole_el hr,if_neg ha]
end Go.Schur
set_option maxRecDepth 100000
namespace Go.Schur
open Go Go.Ab Go.Proofs
theorem trim_take : ∀ {o : List Int} {p : Nat},p ≤ o.length → (∀ i,p ≤ i → o.getD i 0 = 0) → (0 < p → o.getD (p - 1) 0 ≠ 0) → trimZ o = o.take p
 | [],p,hp,_,_=>by simp [trimZ]
 | x :: o,0,hp,hz,_=>by
  have ih:=trim_take (o:=o) (p:=0) (Nat.zero_le _) (fun i hi=>by have:=hz (i + 1) (Nat.zero_le _);simpa using this) (fun h=>absurd h (Nat.lt_irrefl 0))
  have hx : x = 0:=by have:=hz 0 (Nat.le_refl _);simpa using this
  rw [trimZ,ih,if_pos ⟨by simp,hx⟩];rfl
 | x :: o,p + 1,hp,hz,hl=>by
  have ih:=trim_take (o:=o) (p:=p) (by simpa using hp) (fun i hi=>by have:=hz (i + 1) (by omega);simpa using this) (fun h=>by
   have:=hl (by omega)
   obtain ⟨q,rfl⟩ : ∃ q,p = q + 1:=⟨p - 1,by omega⟩
   simpa using this)
  rw [trimZ,ih,List.take_succ_cons]
  rw [if_neg]
  rintro ⟨h1,h2⟩
  have hl' : p ≤ o.length:=by simpa using hp
  have : (o.take p).length = 0:=by rw [h1];rfl
  rw [List.length_take] at this
  have hp0 : p = 0:=by omega
  subst hp0
  exact hl (by omega) (by simpa using h2)
theorem sum_setS : ∀ {l : List Int} {r : Nat} {v : Int},r < l.length → (l.set r v).sum = l.sum - l.getD r 0 + v
 | [],r,v,h=>absurd h (Nat.not_lt_zero _)
 | x :: l,0,v,h=>by simp;omega
 | x :: l,r + 1,v,h=>by
  have:=sum_setS (l:=l) (r:=r) (v:=v) (by simpa using h)
  simp only [List.set_cons_succ,List.sum_cons,List.getD_cons_succ,this]
  omega
theorem sum_takeL {l : List Int} {p : Nat} (h : ∀ x ∈ l,0 ≤ x) : (l.take p).sum ≤ l.sum:=by
 have e : l.sum = (l.take p).sum + (l.drop p).sum:=by rw [← List.sum_append,List.take_append_drop]
 have:=sum_pos (l:=l.drop p) fun x hx=>h x (List.mem_of_mem_drop hx)
 omega
theorem getD_takeS {l : List Int} {p i : Nat} (h : i < p) : (l.take p).getD i 0 = l.getD i 0:=by
 rw [List.getD_eq_getElem?_getD,List.getElem?_take_of_lt h,← List.getD_eq_getElem?_getD]
theorem trim_dec {l : List Int} {rows : List (List Int)} (h : BedR l rows) {row : Int} (hc : crnB l row = true) : trimZ (decI l row) = (decI l row).take (lenP row (l.length:Int) l).toNat ∧ shapeB ((decI l row).take (lenP row (l.length:Int) l).toNat) = true:=by
 obtain ⟨c0,c1,c2,c3⟩:=crn_pos h.shp hc
 have hH:=(hole_of h hc).1
 have hcorner : rowF l (row + 1) < rowF l row:=by
  unfold crnB at hc
  rw [decide_eq_true_eq] at hc
  exact hc.2.2
 have e0 : rowF l row = l.getD row.toNat 0:=by unfold rowF;rw [if_neg (by omega)]
 have e1 : rowF l (row + 1) = l.getD (row.toNat + 1) 0:=by unfold rowF;rw [if_neg (by omega)];congr 1;omega
 rw [e0,e1] at hcorner
 have hpos : ∀ i,i < l.length → 1 ≤ l.getD i 0 ∧ l.getD i 0 ≤ 8:=fun i hi=>shape_mem h.shp (l.getD i 0) (by rw [List.getD_eq_getElem?_getD,List.getElem?_eq_getElem hi];exact List.getElem_mem _)
 have hlen : (decI l row).length = l.length:=by unfold decI;rw [List.length_set]
 have hget : ∀ i : Nat,(decI l row).getD i 0 = if i = row.toNat then l.getD row.toNat 0 - 1 else l.getD i 0:=fun i=>by
  have:=dec_row c0 c1 (a:=i)
  rwa [rowF_nat,rowF_nat] at this
 have hout : ∀ i,l.length ≤ i → l.getD i 0 = 0:=fun i hi=>by rw [List.getD_eq_getElem?_getD,List.getElem?_eq_none hi];rfl
 have hl8:=(shapeB_iff.1 h.shp).1
 have hs8:=(shapeB_iff.1 h.shp).2.2
 have hp : ∃ p : Nat,(lenP row (l.length:Int) l).toNat = p ∧ p ≤ l.length ∧ (∀ i,p ≤ i → (decI l row).getD i 0 = 0) ∧ ∀ i,i < p → 1 ≤ (decI l row).getD i 0 ∧ (decI l row).getD i 0 ≤ 8:=by
  unfold lenP
  by_cases h1 : l.getD row.toNat 0 = 1
  ·rw [if_pos h1]
   have hlast : l.length = row.toNat + 1:=by
    by_cases hh : row.toNat + 1 < l.length
    ·have:=hpos _ hh;omega
    ·omega
   refine ⟨row.toNat,rfl,by omega,fun i hi=>?_,fun i hi=>?_⟩
   ·rw [hget]
    by_cases hi2 : i = row.toNat
    ·rw [if_pos hi2];omega
    ·rw [if_neg hi2];exact hout i (by omega)
   ·rw [hget,if_neg (by omega)];exact hpos i (by omega)
  ·rw [if_neg h1]
   refine ⟨l.length,by omega,Nat.le_refl _,fun i hi=>?_,fun i hi=>?_⟩
   ·rw [hget,if_neg (by omega)];exact hout i hi
   ·rw [hget]
    have:=hpos i hi
    split
    ·rename_i hq;rw [hq] at this;omega
    ·exact this
 obtain ⟨p,ep,hp1,hp2,hp3⟩:=hp
 rw [ep]
 refine ⟨trim_take (by omega) hp2 (fun h0=>by have:=hp3 (p - 1) (by omega);omega),?_⟩
 rw [shapeB_iff]
 refine ⟨by rw [List.length_take];omega,fun i hi=>?_,?_⟩
 ·rw [List.length_take] at hi
  rw [rowOk_iff,getD_takeS (by omega)]
  refine ⟨hp3 i (by omega),?_⟩
  by_cases h0 : i = 0
  ·exact .inl h0
  ·right
   rw [getD_takeS (by omega)]
   have:=(hH.fall (i - 1)).2
   rw [show i - 1 + 1 = i by omega,rowF_nat,rowF_nat] at this
   exact this
 ·have h1:=sum_takeL (l:=decI l row) (p:=p) fun x hx=>by
   unfold decI at hx
   rcases List.mem_or_eq_of_mem_set hx with h | hq
   ·have:=shape_mem ‹BedR l rows›.shp x h;omega
   ·rw [hq];omega
  have h2:=sum_setS (l:=l) (r:=row.toNat) (v:=l.getD row.toNat 0 - 1) (by omega)
  unfold decI at h1 ⊢
  omega
theorem runB_eq {xs inner : List Int} {rows : List (List Int)} {i : Nat} (hi : i < 22) (hb : ∀ b : Nat,b < 18 → bx xs i b = atR inner rows i b) (h0 : 0 ≤ rowF inner (i:Int)) (h8 : outI inner rows i ≤ 8) (he : ∀ b,b < (rows.getD i []).length → 1 ≤ el rows i b) :
  ∀ {n k : Nat},k ≤ (rows.getD i []).length → (rows.getD i []).length < k + n → runB n xs i (rowF inner (i:Int) + (k:Int)) = (rows.getD i []).drop k
 | 0,k,h1,h2=>by omega
 | n + 1,k,h1,h2=>by
  unfold outI at h8
  obtain ⟨b,eb⟩ : ∃ b : Nat,rowF inner (i:Int) + (k:Int) = (b:Int):=⟨(rowF inner (i:Int) + (k:Int)).toNat,by omega⟩
  have hx:=hb b (by omega)
  unfold runB
  rw [eb,hx]
  by_cases hk : k < (rows.getD i []).length
  ·have h:=he k hk
   have hv : atR inner rows i (b:Int) = el rows i k:=by
    unfold atR
    rw [if_pos (by omega),show ((b:Int) - rowF inner (i:Int)).toNat = k by omega]
   rw [hv,if_pos (by omega),List.drop_eq_getElem_cons hk]
   have ih:=runB_eq hi hb h0 (by unfold outI;exact h8) he (n:=n) (k:=k + 1) (by omega) (by omega)
   rw [show (b:Int) + 1 = rowF inner (i:Int) + ((k + 1:Nat):Int) by omega,ih]
   congr 1
   unfold el
   rw [List.getD_eq_getElem?_getD,List.getElem?_eq_getElem hk];rfl
  ·have hv : atR inner rows i (b:Int) = 0:=by
    unfold atR
    rw [if_neg (by omega)]
   rw [hv,if_neg (by omega),List.drop_eq_nil_of_le (by omega)]
theorem skRows_eq {xs inner : List Int} {rows : List (List Int)} (hb : ∀ a b : Nat,a < 22 → b < 18 → bx xs a b = atR inner rows a b) (h0 : ∀ a : Nat,0 ≤ rowF inner (a:Int)) (h8 : ∀ a : Nat,outI inner rows a ≤ 8) (he : ∀ a b,b < (rows.getD a []).length → 1 ≤ el rows a b) {K : Nat} (hK : K ≤ rows.length)
  (h1 : ∀ a,a < K → 0 < outI inner rows a) (h2 : ∀ a,K ≤ a → outI inner rows a ≤ 0) : ∀ {n : Nat},n ≤ 22 → skRows xs inner n = rows.take (min n K)
 | 0,_=>by simp [skRows]
 | n + 1,hn=>by
  have hr:=runB_eq (xs:=xs) (inner:=inner) (rows:=rows) (i:=n) (by omega) (fun b hb'=>hb n b (by omega) hb') (h0 n) (h8 n) (he n) (n:=10) (k:=0) (Nat.zero_le _) (by have:=h8 n;have:=h0 n;unfold outI at *;omega)
  rw [List.drop_zero,show rowF inner (n:Int) + ((0:Nat):Int) = rowF inner (n:Int) by omega] at hr
  rw [skRows,skRows_eq hb h0 h8 he hK h1 h2 (n:=n) (by omega),hr]
  have ho : rowF inner (n:Int) + ((rows.getD n []).length:Int) = outI inner rows n:=rfl
  rw [ho]
  by_cases hnK : n < K
  ·rw [if_pos (h1 n hnK),show min (n + 1) K = n + 1 by omega,show min n K = n by omega,List.take_add_one,List.getElem?_eq_getElem (by omega),List.getD_eq_getElem?_getD,List.getElem?_eq_getElem (by omega)]
   rfl
  ·have:=h2 n (by omega)
   rw [if_neg (by omega),show min (n + 1) K = K by omega,show min n K = K by omega,List.append_nil]
theorem trimK_eq {n : Nat} {rows : List (List Int)} {K : Nat} (h1 : ∀ i,i < K → ¬ (n < i + 1 ∧ (rows.getD i []).length = 0)) (h2 : ∀ i,K ≤ i → n < i + 1 ∧ (rows.getD i []).length = 0) : ∀ {m : Nat},K ≤ m → trimK n rows m = K
 | 0,h=>by unfold trimK;omega
 | m + 1,h=>by
  unfold trimK
  by_cases hm : m + 1 = K
  ·rw [if_neg (h1 m (by omega))];exact hm
  ·rw [if_pos (h2 m (by omega)),trimK_eq h1 h2 (m:=m) (by omega)]
end Go.Schur
set_option maxRecDepth 100000
namespace Go.Schur
open Go Go.Ab Go.Proofs
theorem ex_K {f : Nat → Int} (h : ∀ a,f (a + 1) ≤ f a) : ∀ n : Nat,f n ≤ 0 → ∃ K,K ≤ n ∧ (∀ a,a < K → 0 < f a) ∧ ∀ a,K ≤ a → f a ≤ 0
 | 0,h0=>⟨0,Nat.le_refl _,fun a ha=>absurd ha (Nat.not_lt_zero _),fun a _=>by
  induction a with
  | zero=>exact h0
  | succ a ih=>exact Int.le_trans (h a) (ih (Nat.zero_le _))⟩
 | n + 1,h1=>by
  by_cases hn : f n ≤ 0
  ·obtain ⟨K,k1,k2,k3⟩:=ex_K h n hn
   exact ⟨K,by omega,k2,k3⟩
  ·have mono : ∀ d a,f (a + d) ≤ f a:=fun d a=>by
    induction d with
    | zero=>exact Int.le_refl _
    | succ d ih=>exact Int.le_trans (h (a + d)) ih
   refine ⟨n + 1,Nat.le_refl _,fun a ha=>?_,fun a ha=>?_⟩
   ·have:=mono (n - a) a
    rw [show a + (n - a) = n by omega] at this
    omega
   ·have:=mono (a - (n + 1)) (n + 1)
    rw [show n + 1 + (a - (n + 1)) = a by omega] at this
    omega
theorem getD_takeR {rows : List (List Int)} {K a : Nat} : (rows.take K).getD a [] = if a < K then rows.getD a [] else []:=by
 by_cases h : a < K
 ·rw [if_pos h,List.getD_eq_getElem?_getD,List.getElem?_take_of_lt h,← List.getD_eq_getElem?_getD]
 ·rw [if_neg h,getD_none (by rw [List.length_take];omega)]
theorem cut_bed {l : List Int} {R : List (List Int)} (fall : ∀ a : Nat,0 ≤ rowF l (a:Int)) (hD : DoneR l R) (hl : l.length ≤ R.length) (h20 : R.length ≤ 20) {p : Nat} (hp : p ≤ l.length) (ht : trimZ l = l.take p) (hs : shapeB (l.take p) = true) (hz : ∀ i,p ≤ i → l.getD i 0 = 0) :
  ∃ R',trimF ((l,R,()) : SkD) = (l.take p,R',()) ∧ BedR (l.take p) R' ∧ (∀ a b : Nat,atR (l.take p) R' a b = atR l R a b) ∧ (∀ xs : List Int,(∀ a b : Nat,a < 22 → b < 18 → bx xs a b = atR l R a b) → skRows xs (l.take p) 21 = R'):=by
 have hrow : ∀ a : Nat,rowF (l.take p) (a:Int) = rowF l (a:Int):=fun a=>by
  rw [rowF_nat,rowF_nat]
  by_cases ha : a < p
  ·exact getD_takeS ha
  ·rw [hz a (by omega),List.getD_eq_getElem?_getD,List.getElem?_eq_none (by rw [List.length_take];omega)];rfl
 have hlast : outI l R R.length ≤ 0:=by
  unfold outI
  rw [getD_none (Nat.le_refl _),rowF_nat,List.getD_eq_getElem?_getD,List.getElem?_eq_none hl]
  exact Int.le_refl _
 obtain ⟨K,k1,k2,k3⟩:=ex_K hD.dec R.length hlast
 have hlp : (l.take p).length = p:=by rw [List.length_take];omega
 have hpos : ∀ a,a < p → 1 ≤ rowF l (a:Int):=fun a ha=>by
  rw [← hrow,rowF_nat]
  exact (shape_mem hs _ (by rw [List.getD_eq_getElem?_getD,List.getElem?_eq_getElem (by omega)];exact List.getElem_mem _)).1
 have hpK : p ≤ K:=by
  by_cases h : p ≤ K
  ·exact h
  ·have h1:=hpos K (by omega)
   have h2:=k3 K (Nat.le_refl _)
   unfold outI at h2
   omega
 have hout : ∀ a,outI (l.take p) (R.take K) a = outI l R a:=fun a=>by
  unfold outI
  rw [hrow,getD_takeR]
  by_cases ha : a < K
  ·rw [if_pos ha]
  ·rw [if_neg ha]
   have:=k3 a (by omega)
   have:=fall a
   unfold outI at *
   show rowF l (a:Int) + ((0:Nat):Int) = _
   omega
 have hlenK : ∀ a b,b < ((R.take K).getD a []).length → a < K ∧ b < (R.getD a []).length:=fun a b hb=>by
  rw [getD_takeR] at hb
  by_cases ha : a < K
  ·rw [if_pos ha] at hb;exact ⟨ha,hb⟩
  ·rw [if_neg ha] at hb;exact absurd hb (Nat.not_lt_zero _)
 have hel : ∀ a b,a < K → el (R.take K) a b = el R a b:=fun a b ha=>by
  unfold el
  rw [getD_takeR,if_pos ha]
 have o8 : ∀ a,outI l R a ≤ 8:=fun a=>Int.le_trans (out_mono hD.dec a) hD.o8
 have hat : ∀ a b : Nat,atR (l.take p) (R.take K) a b = atR l R a b:=fun a b=>by
  have ho:=hout a
  unfold outI at ho
  unfold atR
  rw [ho,hrow]
  by_cases hq : rowF l (a:Int) ≤ (b:Int) ∧ (b:Int) < rowF l (a:Int) + ((R.getD a []).length:Int)
  ·rw [if_pos hq,if_pos hq,hel]
   by_cases ha : a < K
   ·exact ha
   ·have:=k3 a (by omega)
    have:=fall a
    unfold outI at *
    omega
  ·rw [if_neg hq,if_neg hq]
 have htk : trimK (l.take p).length R R.length = K:=trimK_eq (n:=(l.take p).length) (rows:=R) (K:=K) (fun i hi hh=>by
   have:=k2 i hi
   unfold outI at this
   rw [rowF_nat] at this
   have:=hz i (by omega)
   omega) (fun i hi=>by
   have h1:=k3 i hi
   have h2:=fall i
   unfold outI at h1
   omega) k1
 refine ⟨R.take K,?_,⟨hs,?_,?_,fun a=>?_,?_,fun a b hb=>?_⟩,hat,fun xs hb=>?_⟩
 ·unfold trimF
  simp only
  rw [ht,htk]
 ·rw [hlp,List.length_take];omega
 ·rw [List.length_take];omega
 ·rw [hout,hout];exact hD.dec a
 ·rw [hout];exact hD.o8
 ·obtain ⟨ha,hb'⟩:=hlenK a b hb
  rw [hel a b ha]
  exact hD.ent a b hb'
 ·have:=skRows_eq (xs:=xs) (inner:=l.take p) (rows:=R.take K) (K:=K) (fun a b ha hb'=>by rw [hat];exact hb a b ha hb') (fun a=>by rw [hrow];exact fall a) (fun a=>by rw [hout];exact o8 a) (fun a b hb'=>by
   obtain ⟨ha,hb2⟩:=hlenK a b hb'
   rw [hel a b ha];exact (hD.ent a b hb2).1) (by rw [List.length_take];omega) (fun a ha=>by rw [hout];exact k2 a ha) (fun a ha=>by rw [hout];exact k3 a ha) (n:=21) (by omega)
  rw [this,show min 21 K = K by omega,List.take_take,Nat.min_self]
theorem slide_out {l : List Int} {rows : List (List Int)} (h : BedR l rows) {row : Int} (hc : crnB l row = true) {xs : List Int} (hx : xs.length = 397) (hb : ∀ a b : Nat,a < 22 → b < 18 → bx xs a b = atR l rows a b) :
  ∃ R',sldR ((l,rows,()) : SkD) row = ((decI l row).take (lenP row (l.length:Int) l).toNat,R',()) ∧ BedR ((decI l row).take (lenP row (l.length:Int) l).toNat) R' ∧
   (slF (30 - (row + (l.getD row.toNat 0 - 1))).toNat xs row (l.getD row.toNat 0 - 1)).length = 397 ∧
   (∀ a b : Nat,a < 22 → b < 18 → bx (slF (30 - (row + (l.getD row.toNat 0 - 1))).toNat xs row (l.getD row.toNat 0 - 1)) a b = atR ((decI l row).take (lenP row (l.length:Int) l).toNat) R' a b) ∧
   skRows (slF (30 - (row + (l.getD row.toNat 0 - 1))).toNat xs row (l.getD row.toNat 0 - 1)) ((decI l row).take (lenP row (l.length:Int) l).toNat) 21 = R':=by
 obtain ⟨c0,c1,c2,c3⟩:=crn_pos h.shp hc
 obtain ⟨hH,hat⟩:=hole_of h hc
 obtain ⟨t1,t2⟩:=trim_dec h hc
 have hl8:=(shapeB_iff.1 h.shp).1
 have hlen:=h.len
 have er : ((row.toNat:Nat):Int) = row:=Int.toNat_of_nonneg c0
 have ev : (((l.getD row.toNat 0 - 1).toNat:Nat):Int) = l.getD row.toNat 0 - 1:=Int.toNat_of_nonneg (by omega)
 have hS:=slide_eq (inner:=decI l row) (30 - (row + (l.getD row.toNat 0 - 1))).toNat 40 (holeI rows row) xs row.toNat (l.getD row.toNat 0 - 1).toNat (by omega) (by omega) hH hx (fun a b ha hb'=>by rw [hat];exact hb a b ha hb')
 rw [er,ev] at hS
 obtain ⟨s1,s2,s3,s4⟩:=hS
 have hdl : (decI l row).length = l.length:=by unfold decI;rw [List.length_set]
 have hhl : (holeI rows row).length = rows.length:=by unfold holeI;rw [List.length_set]
 have hpl : (lenP row (l.length:Int) l).toNat ≤ (decI l row).length:=by rw [hdl];unfold lenP;split <;> omega
 have hz : ∀ i,(lenP row (l.length:Int) l).toNat ≤ i → (decI l row).getD i 0 = 0:=fun i hi=>by
  obtain ⟨m,hm⟩:=trimZ_spec (o:=decI l row)
  rw [t1] at hm
  rw [hm,List.getD_eq_getElem?_getD,List.getElem?_append_right (by rw [List.length_take];omega),List.getElem?_replicate]
  split <;> rfl
 obtain ⟨R',r1,r2,r3,r4⟩:=cut_bed (l:=decI l row) (R:=slR (decI l row) 40 (holeI rows row) row.toNat (l.getD row.toNat 0 - 1)) (fun a=>(hH.fall a).1) s1 (by rw [s2,hdl,hhl];exact hlen) (by rw [s2,hhl];exact h.l20) hpl t1 t2 hz
 exact ⟨R',r1,r2,s3,fun a b ha hb'=>by rw [r3];exact s4 a b ha hb',r4 _ s4⟩
end Go.Schur
set_option maxRecDepth 100000
namespace Go.Schur
open Go Go.Ab Go.Proofs
theorem bed_ok {l : List Int} {rows : List (List Int)} (h : SkOk l rows) : BedR l rows:=by
 have hlen:=h.len
 refine ⟨h.shp,h.len,h.l20,fun i=>?_,?_,fun i j hj=>?_⟩
 ·by_cases hi : i + 1 < rows.length
  ·have:=(h.cnd (i + 1) hi).le
   rwa [if_neg (by omega),show i + 1 - 1 = i by omega] at this
  ·have h1:=(shape_row h.shp i).1
   have h2 : rowF l ((i + 1:Nat):Int) = 0:=by rw [rowF_nat,List.getD_eq_getElem?_getD,List.getElem?_eq_none (by omega)];rfl
   unfold outI
   rw [h2,getD_none (i:=i + 1) (by omega)]
   show (0:Int) + ((0:Nat):Int) ≤ _
   omega
 ·by_cases h0 : 0 < rows.length
  ·exact out_le h h0
  ·unfold outI
   rw [rowF_nat,List.getD_eq_getElem?_getD,List.getElem?_eq_none (by omega),getD_none (by omega)]
   exact (by omega : (0:Int) + ((0:Nat):Int) ≤ 8)
 ·exact (h.cnd i (row_in (by omega))).ent j hj
theorem BedR.done {l : List Int} {rows : List (List Int)} (h : BedR l rows) : DoneR l rows:=⟨h.dec,h.o8,h.ent⟩
theorem trim_bed {l : List Int} {rows : List (List Int)} (h : BedR l rows) : ∃ R',trimF ((l,rows,()) : SkD) = (l,R',()) ∧ BedR l R' ∧ (∀ a b : Nat,atR l R' a b = atR l rows a b) ∧ (∀ xs : List Int,(∀ a b : Nat,a < 22 → b < 18 → bx xs a b = atR l rows a b) → skRows xs l 21 = R'):=by
 have ht : trimZ l = l.take l.length:=trim_take (Nat.le_refl _) (fun i hi=>by rw [List.getD_eq_getElem?_getD,List.getElem?_eq_none hi];rfl) (fun h0=>by
  have:=shape_mem h.shp (l.getD (l.length - 1) 0) (by rw [List.getD_eq_getElem?_getD,List.getElem?_eq_getElem (by omega)];exact List.getElem_mem _)
  omega)
 have:=cut_bed (l:=l) (R:=rows) (fun a=>(shape_row h.shp a).1) h.done h.len h.l20 (p:=l.length) (Nat.le_refl _) ht (by rw [List.take_length];exact h.shp) (fun i hi=>by rw [List.getD_eq_getElem?_getD,List.getElem?_eq_none hi];rfl)
 rw [List.take_length] at this
 exact this
theorem crn_last {l : List Int} (hs : shapeB l = true) (h0 : 0 < l.length) : crnB l ((l.length:Int) - 1) = true:=by
 have h1:=shape_mem hs (l.getD (l.length - 1) 0) (by rw [List.getD_eq_getElem?_getD,List.getElem?_eq_getElem (by omega)];exact List.getElem_mem _)
 unfold crnB
 rw [decide_eq_true_eq]
 have e1 : (l.length:Int) - 1 + 1 = ((l.length:Nat):Int):=by omega
 have e2 : (l.length:Int) - 1 = ((l.length - 1:Nat):Int):=by omega
 rw [e1,e2,rowF_nat,rowF_nat,List.getD_eq_getElem?_getD (i:=l.length),List.getElem?_eq_none (Nat.le_refl _)]
 refine ⟨by omega,by omega,?_⟩
 show (0:Int) < _
 omega
set_option maxHeartbeats 2000000 in
theorem str_eq : ∀ (m:Nat) (l:List Int) (rows:List (List Int)) (xs inner:List Int) (n:Nat),n ≤ inner.length → l = inner.take n → BedR l rows → xs.length = 397 → (∀ a b : Nat,a < 22 → b < 18 → bx xs a b = atR l rows a b) → skRows xs l 21 = rows → l.sum ≤ (m:Int) →
  (skwB (strB m (xs,(n:Int),inner))).2.1 = (strG m ((l,rows,()) : SkD)).2.1:=by
 intro m
 have base : ∀ (m:Nat) (rows:List (List Int)) (xs inner:List Int),skRows xs [] 21 = rows → (skwB (strB m (xs,((0:Nat):Int),inner))).2.1 = (strG m ((([]:List Int),rows,()) : SkD)).2.1:=fun m rows xs inner hs=>by
  have e1 : strB m (xs,((0:Nat):Int),inner) = (xs,((0:Nat):Int),inner):=by
   cases m with
   | zero=>rfl
   | succ m=>unfold strB;rw [if_pos (by simp)]
  have e2 : strG m ((([]:List Int),rows,()) : SkD) = ([],rows,()):=by
   cases m with
   | zero=>rfl
   | succ m=>rw [strG,if_pos (show ((([]:List Int),rows,()) : SkD).1.length = 0 from rfl)]
  rw [e1,e2]
  show skRows xs (inner.take 0) 21 = rows
  rw [List.take_zero];exact hs
 induction m with
 | zero =>
  intro l rows xs inner n hn hl hB hx hb hs hsum
  cases n with
  | zero =>
   rw [List.take_zero] at hl;subst hl
   exact base _ _ _ _ hs
  | succ k =>
   have hll : l.length = k + 1:=by rw [hl,List.length_take];omega
   have:=len_le_sum (t:=l) fun x hx=>(shape_mem hB.shp x hx).1
   omega
 | succ m ih =>
  intro l rows xs inner n hn hl hB hx hb hs hsum
  cases n with
  | zero =>
   rw [List.take_zero] at hl;subst hl
   exact base _ _ _ _ hs
  | succ k =>
   have hll : l.length = k + 1:=by rw [hl,List.length_take];omega
   have hc:=crn_last hB.shp (by omega)
   have ek : (l.length:Int) - 1 = (k:Int):=by omega
   rw [ek] at hc
   obtain ⟨c0,c1,c2,c3⟩:=crn_pos hB.shp hc
   rw [Int.toNat_natCast] at c2 c3
   obtain ⟨R',r1,r2,r3,r4,r5⟩:=slide_out hB hc hx hb
   have eg : inner.getD k 0 = l.getD k 0:=by rw [hl,getD_takeS (by omega)]
   have eG : strG (m + 1) ((l,rows,()) : SkD) = strG m (sldR ((l,rows,()) : SkD) (k:Int)):=by
    rw [strG,if_neg (show ¬ ((l,rows,()) : SkD).1.length = 0 by show ¬ l.length = 0;omega)]
    show strG m (sldR _ ((l.length:Int) - 1)) = _
    rw [ek]
   have eB : strB (m + 1) (xs,((k + 1:Nat):Int),inner) = strB m (sldB xs ((k + 1:Nat):Int) inner (k:Int)):=by
    have hn0 : ¬ (((k + 1:Nat):Int) ≤ 0):=by omega
    have ek2 : ((k + 1:Nat):Int) - 1 = (k:Int):=by omega
    rw [strB]
    rw [if_neg hn0,ek2]
   rw [eB,eG,r1]
   have elen : lenP (k:Int) (l.length:Int) l = lenP (k:Int) ((k + 1:Nat):Int) inner:=by
    unfold lenP
    rw [Int.toNat_natCast,eg,hll]
   have epn : ∃ p : Nat,lenP (k:Int) ((k + 1:Nat):Int) inner = (p:Int) ∧ p ≤ k + 1 ∧ (p = k + 1 ∨ p = k):=by
    unfold lenP
    by_cases h1 : inner.getD (k:Int).toNat 0 = 1
    ·rw [if_pos h1];exact ⟨k,rfl,by omega,.inr rfl⟩
    ·rw [if_neg h1];exact ⟨k + 1,rfl,by omega,.inl rfl⟩
   obtain ⟨p,ep,hp,_⟩:=epn
   have eS : sldB xs ((k + 1:Nat):Int) inner (k:Int) = (slF (30 - ((k:Int) + (l.getD k 0 - 1))).toNat xs (k:Int) (l.getD k 0 - 1),(p:Int),inner.set k (l.getD k 0 - 1)):=by
    unfold sldB
    rw [ep,Int.toNat_natCast,eg]
   rw [eS]
   rw [elen,ep,Int.toNat_natCast] at r2 r4 r5
   rw [Int.toNat_natCast] at r3 r4 r5
   have edec : (decI l (k:Int)).take p = (inner.set k (l.getD k 0 - 1)).take p:=by
    unfold decI
    rw [Int.toNat_natCast]
    refine List.ext_getElem (by simp [hll];omega) fun i h1 h2=>?_
    have hi : i < p:=by rw [List.length_take] at h1;omega
    rw [List.getElem_take,List.getElem_take,List.getElem_set,List.getElem_set]
    split
    ·rfl
    ·simp only [hl,List.getElem_take]
   rw [elen,ep,Int.toNat_natCast]
   refine ih _ _ _ _ p (by rw [List.length_set];omega) edec r2 r3 r4 r5 ?_
   have h1:=sum_takeL (l:=decI l (k:Int)) (p:=p) fun x hx=>by
    unfold decI at hx
    rw [Int.toNat_natCast] at hx
    rcases List.mem_or_eq_of_mem_set hx with h | hq
    ·have:=shape_mem hB.shp x h;omega
    ·rw [hq];omega
   have h2:=sum_setS (l:=l) (r:=k) (v:=l.getD k 0 - 1) (by omega)
   unfold decI at h1 ⊢
   rw [Int.toNat_natCast] at h1 ⊢
   omega
end Go.Schur
set_option maxRecDepth 100000
namespace Go.Schur
open Go Go.Ab Go.Proofs
theorem ex_box (l:List Int) (rows:List (List Int)) : ∃ xs : List Int,xs.length = 397 ∧ ∀ a b : Nat,a < 22 → b < 18 → bx xs a b = atR l rows a b:=by
 refine ⟨(List.range 397).map fun t=>atR l rows (t / 18) ((t % 18:Nat):Int),by simp,fun a b ha hb=>?_⟩
 unfold bx
 have e : ((a:Int) * 18 + (b:Int)).toNat = a * 18 + b:=by omega
 rw [e,List.getD_eq_getElem?_getD,List.getElem?_eq_getElem (by simp;omega)]
 simp only [List.getElem_map,List.getElem_range,Option.getD_some]
 rw [show (a * 18 + b) / 18 = a by omega,show (a * 18 + b) % 18 = b by omega]
theorem BedR.ok {l : List Int} {rows : List (List Int)} (h : BedR l rows) : okRs ((l,rows,()) : SkD):=by
 have h8:=(shapeB_iff.1 h.shp).1
 have:=h.l20
 refine ⟨by show l.length ≤ 1000;omega,by show rows.length ≤ 1000;omega,fun r hr=>?_⟩
 obtain ⟨i,hi,rfl⟩:=List.getElem_of_mem hr
 have ho:=Int.le_trans (out_mono h.dec i) h.o8
 have h0:=(shape_row h.shp i).1
 have hi' : i < rows.length:=hi
 unfold outI at ho
 rw [List.getD_eq_getElem?_getD,List.getElem?_eq_getElem hi'] at ho
 simp only [Option.getD_some] at ho
 show (rows[i]).length ≤ 1000
 omega
end Go.Schur
set_option maxRecDepth 100000
namespace Go.Schur
open Go Go.Ab Go.Proofs
end Go.Schur
set_option maxRecDepth 100000
namespace Go.Schur
open Go Go.Ab Go.Proofs
theorem HoleR.len8 {l : List Int} {rows : List (List Int)} {i j : Nat} (h : HoleR l rows i j) (a:Nat) : (rows.getD a []).length ≤ 8:=by
 have h1:=out_mono h.dec a
 have h2:=h.o8
 have h3:=(h.fall a).1
 unfold outI at h1 h2
 omega
end Go.Schur
set_option maxRecDepth 100000
namespace Go.Schur
open Go Go.Ab Go.Proofs
theorem cut_cut {s : SkD} : cutF (cutF s) = cutF s:=by
 unfold cutF
 simp only [tab_tab,List.take_take,Nat.min_self]
theorem slides_ok {t : SkD} (h : SkOk t.1 t.2.1) : (readF t).isSome = true ∧ stX t = ((strG 40 (trimF t)).2.1,0,()) ∧ ∀ row,crnB t.1 row = true → slX t row = (sldR t row,0,()):=by
 have hr : (readF t).isSome = true:=(read_iff (inner:=t.1) (rows:=t.2.1)).2 h
 obtain ⟨xs,hx,hB,hbx,hok,hin⟩:=bed_of hr
 have hb:=bed_ok h
 have es : ((t.1,t.2.1,()) : SkD) = t:=rfl
 refine ⟨hr,?_,fun row hc=>?_⟩
 ·unfold stX
  rw [if_pos hr,hx,Option.getD_some]
  obtain ⟨R',t1,t2,t3,t4⟩:=trim_bed hb
  rw [es] at t1
  rw [t1]
  have:=str_eq 40 t.1 R' xs t.1 t.1.length (Nat.le_refl _) (by rw [List.take_length]) t2 hB.1 (fun a b ha hb'=>by rw [t3];exact hbx a b ha hb') (t4 xs hbx) (by have:=(shapeB_iff.1 hb.shp).2.2;omega)
  rw [this]
 ·unfold slX
  rw [if_pos ⟨hr,hc⟩,hx,Option.getD_some]
  obtain ⟨R',r1,r2,r3,r4,r5⟩:=slide_out hb hc hB.1 hbx
  rw [es] at r1
  rw [r1]
  have : skwB (sldB xs (t.1.length:Int) t.1 row) = ((decI t.1 row).take (lenP row (t.1.length:Int) t.1).toNat,R',()):=by
   have e : skwB (sldB xs (t.1.length:Int) t.1 row) = ((decI t.1 row).take (lenP row (t.1.length:Int) t.1).toNat,skRows (slF (30 - (row + (t.1.getD row.toNat 0 - 1))).toNat xs row (t.1.getD row.toNat 0 - 1)) ((decI t.1 row).take (lenP row (t.1.length:Int) t.1).toNat) 21,()):=rfl
   rw [e,r5]
  rw [this]
theorem BedR.small {l : List Int} {rows : List (List Int)} (h : BedR l rows) : Ab.small l ∧ Ab.small rows ∧ ∀ x,List.Mem x rows → Ab.small x:=by
 obtain ⟨h1,h2,h3⟩:=h.ok
 have h1 : l.length ≤ 1000:=h1
 have h2 : rows.length ≤ 1000:=h2
 refine ⟨by unfold Ab.small;omega,by unfold Ab.small;omega,fun x hx=>?_⟩
 have : x.length ≤ 1000:=h3 x hx
 unfold Ab.small;omega
end Go.Schur
set_option maxRecDepth 100000
namespace Go.Schur
open Go Go.Ab Go.Proofs
end Go.Schur
