/- Slides: contracts. -/
import Derived.Test.YtobghbapmlnmoaaXR
set_option linter.unusedVariables false
set_option linter.unusedSimpArgs false
namespace Go.Schur
open Go Go.Ab Go.Proofs
noncomputable def cutF (s : SkD) : SkD:=(s.1.take 12,tabF s.2.1,())
noncomputable def con42 : Con:=mkC 42 [.d SkT] [SkT] (fun (s : SkD)=>[small s.1 ∧ small s.2.1]) (fun (s : SkD)=>(cutF s,()))
noncomputable def g42 (x0 : List Int × List (List Int) × Unit) : Option ((List Int × List (List Int) × Unit) × Unit):=gd (small x0.2.1) (some ((((List.take 12 x0.1,tabF x0.2.1,()) : List Int × List (List Int) × Unit),()) : (List Int × List (List Int) × Unit) × Unit))
noncomputable def g42_sh : List LSh:=([] : List LSh)
noncomputable def con44 : Con:=mkC 44 [.d SkT] [SkT] (fun (s : SkD)=>[small s.1 ∧ small s.2.1]) (fun (s : SkD)=>(cutF s,()))
noncomputable def g44 (x0 : List Int × List (List Int) × Unit) : Option ((List Int × List (List Int) × Unit) × Unit):=gd (small x0.2.1) (some ((((List.take 12 x0.1,tabF x0.2.1,()) : List Int × List (List Int) × Unit),()) : (List Int × List (List Int) × Unit) × Unit))
noncomputable def g44_sh : List LSh:=([] : List LSh)
def noneB (s : SkD) : Bool:=decide (s.1.length + s.2.1.length = 0)
noncomputable def con47 : Con:=mkC 47 [.d SkT] [.bool] (fun (s : SkD)=>[s.1.length ≤ 1000 ∧ s.2.1.length ≤ 1000]) (fun (s : SkD)=>(noneB s,()))
noncomputable def g47 (x0 : List Int × List (List Int) × Unit) : Option (Bool × Unit):=some ((ieq (wr .i64 ((↑(List.length x0.1):Int) + (↑(List.length x0.2.1):Int))) 0,()) : Bool × Unit)
noncomputable def g47_sh : List LSh:=([] : List LSh)
def crnB (l:List Int) (row:Int) : Bool:=decide (0 ≤ row ∧ row < (l.length:Int) ∧ rowF l (row + 1) < rowF l row)
noncomputable def con49 : Con:=mkC 49 [.d LI,.d I64] [.bool] (fun (l:List Int) (row:Int)=>[l.length ≤ 1000]) (fun (l:List Int) (row:Int)=>(crnB l row,()))
noncomputable def g49 (x0:List Int) (x1:Int) : Option (Bool × Unit):=gd (ile 0 x1 = true → ile 0 x1 = true) (gd (ile 0 x1 = true → ile 0 x1 = true ∧ ile 0 x1 = true) (gd (ile 0 x1 = true → ile 0 x1 = true) (gd ((bif ile 0 x1 then ilt x1 (↑(List.length x0):Int) else false) = true → (bif ile 0 x1 then ilt x1 (↑(List.length x0):Int) else false) = true) (gd ((bif ile 0 x1 then ilt x1 (↑(List.length x0):Int) else false) = true → (bif ile 0 x1 then ilt x1 (↑(List.length x0):Int) else false) = true ∧ (bif ile 0 x1 then ilt x1 (↑(List.length x0):Int) else false) = true ∧ List.length x0 ≤ 1000) (gd ((bif ile 0 x1 then ilt x1 (↑(List.length x0):Int) else false) = true → (bif ile 0 x1 then ilt x1 (↑(List.length x0):Int) else false) = true ∧ (bif ile 0 x1 then ilt x1 (↑(List.length x0):Int) else false) = true ∧ 0 ≤ x1 ∧ x1 < (↑(List.length x0):Int)) (gd ((bif ile 0 x1 then ilt x1 (↑(List.length x0):Int) else false) = true → (bif ile 0 x1 then ilt x1 (↑(List.length x0):Int) else false) = true) (gd ((bif ile 0 x1 then ilt x1 (↑(List.length x0):Int) else false) = true → (bif ile 0 x1 then ilt x1 (↑(List.length x0):Int) else false) = true ∧ (bif ile 0 x1 then ilt x1 (↑(List.length x0):Int) else false) = true) (gd ((bif ile 0 x1 then ilt x1 (↑(List.length x0):Int) else false) = true → (bif ile 0 x1 then ilt x1 (↑(List.length x0):Int) else false) = true) (some ((bif bif ile 0 x1 then ilt x1 (↑(List.length x0):Int) else false then ilt (rowF x0 (wr .i64 (x1 + 1))) (List.getD x0 (Int.toNat x1) 0) else false,()) : Bool × Unit))))))))))
noncomputable def g49_sh : List LSh:=([] : List LSh)
def trimK (n:Nat) (rows:List (List Int)) : Nat → Nat
 | 0=>0
 | m + 1=>if n < m + 1 ∧ (rows.getD m []).length = 0 then trimK n rows m else m + 1
def trimF (s : SkD) : SkD:=(trimZ s.1,s.2.1.take (trimK (trimZ s.1).length s.2.1 s.2.1.length),())
noncomputable def con92 : Con:=mkC 92 [.d SkT] [SkT] (fun (s : SkD)=>[okRs s]) (fun (s : SkD)=>(trimF s,()))
noncomputable def g92 (x0 : List Int × List (List Int) × Unit) : Option ((List Int × List (List Int) × Unit) × Unit):=whileO (fun (d1 : List Int × List (List Int) × List Int × List (List Int) × Unit)=>gd (ilt 0 (↑(List.length d1.1):Int) = true → ilt 0 (↑(List.length d1.1):Int) = true) (gd (ilt 0 (↑(List.length d1.1):Int) = true → ilt 0 (↑(List.length d1.1):Int) = true) (gd (ilt 0 (↑(List.length d1.1):Int) = true → ilt 0 (↑(List.length d1.1):Int) = true) (gd (ilt 0 (↑(List.length d1.1):Int) = true → ilt 0 (↑(List.length d1.1):Int) = true) (gd (ilt 0 (↑(List.length d1.1):Int) = true → ilt 0 (↑(List.length d1.1):Int) = true ∧ ilt 0 (↑(List.length d1.1):Int) = true ∧ 0 ≤ wr .i64 ((↑(List.length d1.1):Int) - 1) ∧ wr .i64 ((↑(List.length d1.1):Int) - 1) < (↑(List.length d1.1):Int)) (gd (ilt 0 (↑(List.length d1.1):Int) = true → ilt 0 (↑(List.length d1.1):Int) = true) (gd (ilt 0 (↑(List.length d1.1):Int) = true → ilt 0 (↑(List.length d1.1):Int) = true) (gd (ilt 0 (↑(List.length d1.1):Int) = true → ilt 0 (↑(List.length d1.1):Int) = true) (bif bif ilt 0 (↑(List.length d1.1):Int) then ieq (List.getD d1.1 (Int.toNat (wr .i64 ((↑(List.length d1.1):Int) - 1))) 0) 0 else false then gd (0 ≤ wr .i64 ((↑(List.length d1.1):Int) - 1) ∧ wr .i64 ((↑(List.length d1.1):Int) - 1) ≤ (↑(List.length d1.1):Int)) (some (Lp.go ((List.take (Int.toNat (wr .i64 ((↑(List.length d1.1):Int) - 1))) d1.1,d1.2.1,d1.2.2.1,d1.2.2.2.1,()) : List Int × List (List Int) × List Int × List (List Int) × Unit))) else whileO (fun (d2 : Int × List Int × List (List Int) × List Int × List (List Int) × Unit)=>gd (ilt (↑(List.length d2.2.1):Int) d2.1 = true → ilt (↑(List.length d2.2.1):Int) d2.1 = true) (gd (ilt (↑(List.length d2.2.1):Int) d2.1 = true → ilt (↑(List.length d2.2.1):Int) d2.1 = true) (gd (ilt (↑(List.length d2.2.1):Int) d2.1 = true → ilt (↑(List.length d2.2.1):Int) d2.1 = true ∧ ilt (↑(List.length d2.2.1):Int) d2.1 = true ∧ 0 ≤ wr .i64 (d2.1 - 1) ∧ wr .i64 (d2.1 - 1) < (↑(List.length d2.2.2.1):Int)) (gd (ilt (↑(List.length d2.2.1):Int) d2.1 = true → ilt (↑(List.length d2.2.1):Int) d2.1 = true) (gd (ilt (↑(List.length d2.2.1):Int) d2.1 = true → ilt (↑(List.length d2.2.1):Int) d2.1 = true) (gd (ilt (↑(List.length d2.2.1):Int) d2.1 = true → ilt (↑(List.length d2.2.1):Int) d2.1 = true) (gd (ilt (↑(List.length d2.2.1):Int) d2.1 = true → ilt (↑(List.length d2.2.1):Int) d2.1 = true) (bif bif ilt (↑(List.length d2.2.1):Int) d2.1 then ieq (↑(List.length (List.getD d2.2.2.1 (Int.toNat (wr .i64 (d2.1 - 1))) ([]:List Int))):Int) 0 else false then gd (0 ≤ wr .i64 (d2.1 - 1) ∧ wr .i64 (d2.1 - 1) ≤ (↑(List.length d2.2.2.1):Int)) (some (Lp.go (((↑(List.length (List.take (Int.toNat (wr .i64 (d2.1 - 1))) d2.2.2.1)):Int),d2.2.1,List.take (Int.toNat (wr .i64 (d2.1 - 1))) d2.2.2.1,d2.2.2.2.1,d2.2.2.2.2.1,()) : Int × List Int × List (List Int) × List Int × List (List Int) × Unit))) else some (Lp.out (Lp.out ((((d2.2.1,d2.2.2.1,()) : List Int × List (List Int) × Unit),()) : (List Int × List (List Int) × Unit) × Unit))))))))))) (((↑(List.length d1.2.1):Int),d1.1,d1.2.1,d1.2.2.1,d1.2.2.2.1,()) : Int × List Int × List (List Int) × List Int × List (List Int) × Unit)))))))))) ((x0.1,x0.2.1,([]:List Int),([]:List (List Int)),()) : List Int × List (List Int) × List Int × List (List Int) × Unit)
noncomputable def g92_sh : List LSh:=LSh.mk (((1,TV.ref (0) 1 0 0) : Nat × TV) :: ((2,TV.ref (1) 1 0 0) : Nat × TV) :: ([] : List (Nat × TV))) (TB.cells (TV.v (Ty.slice (Ty.int IntKind.i64)) :: TV.v (Ty.slice (Ty.slice (Ty.int IntKind.i64))) :: ([] : List TV)) :: TB.cells (TV.v (Ty.slice (Ty.int IntKind.i64)) :: TV.v (Ty.slice (Ty.slice (Ty.int IntKind.i64))) :: ([] : List TV)) :: ([] : List TB)) :: LSh.mk (((1,TV.ref (0) 1 0 0) : Nat × TV) :: ((2,TV.ref (1) 1 0 0) : Nat × TV) :: ((3,TV.v (Ty.int IntKind.i64)) : Nat × TV) :: ([] : List (Nat × TV))) (TB.cells (TV.v (Ty.slice (Ty.int IntKind.i64)) :: TV.v (Ty.slice (Ty.slice (Ty.int IntKind.i64))) :: ([] : List TV)) :: TB.cells (TV.v (Ty.slice (Ty.int IntKind.i64)) :: TV.v (Ty.slice (Ty.slice (Ty.int IntKind.i64))) :: ([] : List TV)) :: ([] : List TB)) :: ([] : List LSh)
def atX (inner:List Int) (rows:List (List Int)) (i:Nat) (j:Int) : Int:=if 0 ≤ j - rowF inner i ∧ j - rowF inner i < ((rows.getD i []).length:Int) then el rows i (j - rowF inner i).toNat else 0
noncomputable def slR (inner:List Int) : Nat → List (List Int) → Nat → Int → List (List Int)
 | 0,rows,_,_=>rows
 | n + 1,rows,i,j=>if atX inner rows i (j + 1) = 0 ∧ atX inner rows (i + 1) j = 0 then rows.set i ((rows.getD i []).take (j - rowF inner i).toNat) else
   if 0 < atX inner rows (i + 1) j ∧ (atX inner rows i (j + 1) = 0 ∨ atX inner rows (i + 1) j ≤ atX inner rows i (j + 1)) then slR inner n (rows.set i ((rows.getD i []).set (j - rowF inner i).toNat (atX inner rows (i + 1) j))) (i + 1) j
   else slR inner n (rows.set i ((rows.getD i []).set (j - rowF inner i).toNat (atX inner rows i (j + 1)))) i (j + 1)
structure BedR (inner:List Int) (rows:List (List Int)) : Prop where
 shp : shapeB inner = true
 len : inner.length ≤ rows.length
 l20 : rows.length ≤ 20
 dec : ∀ i : Nat,outI inner rows (i + 1) ≤ outI inner rows i
 o8 : outI inner rows 0 ≤ 8
 ent : ∀ i j : Nat,j < (rows.getD i []).length → 1 ≤ el rows i j ∧ el rows i j ≤ 8
def skOkB (s : SkD) : Prop:=BedR s.1 s.2.1
noncomputable def sldR (s : SkD) (row:Int) : SkD:=trimF (s.1.set row.toNat (s.1.getD row.toNat 0 - 1),slR (s.1.set row.toNat (s.1.getD row.toNat 0 - 1)) 40 (s.2.1.set row.toNat (0 :: s.2.1.getD row.toNat [])) row.toNat (s.1.getD row.toNat 0 - 1),())
noncomputable def con50 : Con:=mkC 50 [.d SkT,.d I64] [SkT] (fun (s : SkD) (row:Int)=>[skOkB s ∧ crnB s.1 row = true]) (fun (s : SkD) (row:Int)=>(sldR s row,()))
abbrev D50:=Int × Int × Int × Int × List Int × List (List Int) × List Int × List (List Int) × Unit
noncomputable def g50_c0 (d2 : Int × Int × Int × Int × List Int × List (List Int) × List Int × List (List Int) × Unit) : Int:=wr .i64 (wr .i64 (d2.2.2.2.1 + 1) - rowF (List.take (Int.toNat d2.1) (List.drop 0 d2.2.2.2.2.2.2.1)) d2.2.2.1)
noncomputable def g50_c1 (d2 : Int × Int × Int × Int × List Int × List (List Int) × List Int × List (List Int) × Unit) : Int:=List.getD (List.getD d2.2.2.2.2.2.2.2.1 (0 + Int.toNat d2.2.2.1) ([]:List Int)) (0 + Int.toNat (g50_c0 d2)) 0
noncomputable def g50_c2 (d2 : Int × Int × Int × Int × List Int × List (List Int) × List Int × List (List Int) × Unit) : Int:=wr .i64 (d2.2.2.2.1 - rowF (List.take (Int.toNat d2.1) (List.drop 0 d2.2.2.2.2.2.2.1)) (wr .i64 (d2.2.2.1 + 1)))
noncomputable def g50_c3 (d2 : Int × Int × Int × Int × List Int × List (List Int) × List Int × List (List Int) × Unit) : Bool:=ilt (g50_c2 d2) (↑(List.length (List.getD d2.2.2.2.2.2.2.2.1 (0 + Int.toNat (wr .i64 (d2.2.2.1 + 1))) ([]:List Int))):Int)
noncomputable def g50_c4 (d2 : Int × Int × Int × Int × List Int × List (List Int) × List Int × List (List Int) × Unit) : Int:=List.getD (List.getD d2.2.2.2.2.2.2.2.1 (0 + Int.toNat (wr .i64 (d2.2.2.1 + 1))) ([]:List Int)) (0 + Int.toNat (g50_c2 d2)) 0
noncomputable def g50_l0 : D50 → Option (Lp D50 (SkD × Unit)):=fun (d2 : Int × Int × Int × Int × List Int × List (List Int) × List Int × List (List Int) × Unit)=>gd (0 + Int.toNat d2.1 ≤ List.length d2.2.2.2.2.2.2.1) (gd (List.length (List.take (Int.toNat d2.1) (List.drop 0 d2.2.2.2.2.2.2.1)) ≤ 1000) (gd (0 ≤ d2.2.2.1 ∧ d2.2.2.1 < (↑(Int.toNat d2.2.1):Int)) (gd (0 + Int.toNat d2.2.2.1 < List.length d2.2.2.2.2.2.2.2.1) (bif ilt (g50_c0 d2) (↑(List.length (List.getD d2.2.2.2.2.2.2.2.1 (0 + Int.toNat d2.2.2.1) ([]:List Int))):Int) then gd (0 ≤ d2.2.2.1 ∧ d2.2.2.1 < (↑(Int.toNat d2.2.1):Int)) (gd (0 + Int.toNat d2.2.2.1 < List.length d2.2.2.2.2.2.2.2.1) (gd (0 ≤ g50_c0 d2 ∧ g50_c0 d2 < (↑(List.length (List.getD d2.2.2.2.2.2.2.2.1 (0 + Int.toNat d2.2.2.1) ([]:List Int))):Int)) (gd (0 + Int.toNat (g50_c0 d2) < List.length (List.getD d2.2.2.2.2.2.2.2.1 (0 + Int.toNat d2.2.2.1) ([]:List Int))) (bif ilt (wr .i64 (d2.2.2.1 + 1)) (↑(Int.toNat d2.2.1):Int) then gd (0 + Int.toNat d2.1 ≤ List.length d2.2.2.2.2.2.2.1) (gd (List.length (List.take (Int.toNat d2.1) (List.drop 0 d2.2.2.2.2.2.2.1)) ≤ 1000) (gd (ile 0 (g50_c2 d2) = true → ile 0 (g50_c2 d2) = true) (gd (ile 0 (g50_c2 d2) = true → ile 0 (g50_c2 d2) = true ∧ ile 0 (g50_c2 d2) = true ∧ 0 ≤ wr .i64 (d2.2.2.1 + 1) ∧ wr .i64 (d2.2.2.1 + 1) < (↑(Int.toNat d2.2.1):Int)) (gd (ile 0 (g50_c2 d2) = true → ile 0 (g50_c2 d2) = true ∧ 0 + Int.toNat (wr .i64 (d2.2.2.1 + 1)) < List.length d2.2.2.2.2.2.2.2.1) (gd (ile 0 (g50_c2 d2) = true → ile 0 (g50_c2 d2) = true) (gd (ile 0 (g50_c2 d2) = true → ile 0 (g50_c2 d2) = true ∧ ile 0 (g50_c2 d2) = true) (gd (ile 0 (g50_c2 d2) = true → ile 0 (g50_c2 d2) = true) (bif bif ile 0 (g50_c2 d2) then g50_c3 d2 else false then gd (0 ≤ wr .i64 (d2.2.2.1 + 1) ∧ wr .i64 (d2.2.2.1 + 1) < (↑(Int.toNat d2.2.1):Int)) (gd (0 + Int.toNat (wr .i64 (d2.2.2.1 + 1)) < List.length d2.2.2.2.2.2.2.2.1) (gd (0 ≤ g50_c2 d2 ∧ g50_c2 d2 < (↑(List.length (List.getD d2.2.2.2.2.2.2.2.1 (0 + Int.toNat (wr .i64 (d2.2.2.1 + 1))) ([]:List Int))):Int)) (gd (0 + Int.toNat (g50_c2 d2) < List.length (List.getD d2.2.2.2.2.2.2.2.1 (0 + Int.toNat (wr .i64 (d2.2.2.1 + 1))) ([]:List Int))) (gd (0 + Int.toNat d2.1 ≤ List.length d2.2.2.2.2.2.2.1) (gd (List.length (List.take (Int.toNat d2.1) (List.drop 0 d2.2.2.2.2.2.2.1)) ≤ 1000) (gd (ieq (g50_c1 d2) 0 = true → ieq (g50_c1 d2) 0 = true) (gd (ieq (g50_c1 d2) 0 = true → ieq (g50_c1 d2) 0 = true) (bif bif ieq (g50_c1 d2) 0 then ieq (g50_c4 d2) 0 else false then gd (0 ≤ d2.2.2.1 ∧ d2.2.2.1 < (↑(Int.toNat d2.2.1):Int)) (gd (0 + Int.toNat d2.2.2.1 < List.length d2.2.2.2.2.2.2.2.1) (gd (0 ≤ wr .i64 (d2.2.2.2.1 - rowF (List.take (Int.toNat d2.1) (List.drop 0 d2.2.2.2.2.2.2.1)) d2.2.2.1) ∧ wr .i64 (d2.2.2.2.1 - rowF (List.take (Int.toNat d2.1) (List.drop 0 d2.2.2.2.2.2.2.1)) d2.2.2.1) ≤ (↑(List.length (List.getD d2.2.2.2.2.2.2.2.1 (0 + Int.toNat d2.2.2.1) ([]:List Int))):Int)) (gd (0 ≤ d2.2.2.1 ∧ d2.2.2.1 < (↑(Int.toNat d2.2.1):Int)) (gd (0 + Int.toNat d2.2.2.1 < List.length d2.2.2.2.2.2.2.2.1) (gd (0 + Int.toNat d2.2.2.1 = 0 + Int.toNat d2.2.2.1) (gd (Int.toNat (wr .i64 (d2.2.2.2.1 - rowF (List.take (Int.toNat d2.1) (List.drop 0 d2.2.2.2.2.2.2.1)) d2.2.2.1)) ≤ List.length (List.getD d2.2.2.2.2.2.2.2.1 (0 + Int.toNat d2.2.2.1) ([]:List Int))) (gd (0 + Int.toNat d2.1 ≤ List.length d2.2.2.2.2.2.2.1) (gd (0 + Int.toNat d2.2.1 ≤ List.length (List.set d2.2.2.2.2.2.2.2.1 (0 + Int.toNat d2.2.2.1) (List.take (Int.toNat (wr .i64 (d2.2.2.2.1 - rowF (List.take (Int.toNat d2.1) (List.drop 0 d2.2.2.2.2.2.2.1)) d2.2.2.1))) (List.getD d2.2.2.2.2.2.2.2.1 (0 + Int.toNat d2.2.2.1) ([]:List Int))))) (gd (okRs ((List.take (Int.toNat d2.1) (List.drop 0 d2.2.2.2.2.2.2.1),List.take (Int.toNat d2.2.1) (List.drop 0 (List.set d2.2.2.2.2.2.2.2.1 (0 + Int.toNat d2.2.2.1) (List.take (Int.toNat (wr .i64 (d2.2.2.2.1 - rowF (List.take (Int.toNat d2.1) (List.drop 0 d2.2.2.2.2.2.2.1)) d2.2.2.1))) (List.getD d2.2.2.2.2.2.2.2.1 (0 + Int.toNat d2.2.2.1) ([]:List Int))))),()) : List Int × List (List Int) × Unit)) (some (Lp.out (((((trimF ((List.take (Int.toNat d2.1) (List.drop 0 d2.2.2.2.2.2.2.1),List.take (Int.toNat d2.2.1) (List.drop 0 (List.set d2.2.2.2.2.2.2.2.1 (0 + Int.toNat d2.2.2.1) (List.take (Int.toNat (wr .i64 (d2.2.2.2.1 - rowF (List.take (Int.toNat d2.1) (List.drop 0 d2.2.2.2.2.2.2.1)) d2.2.2.1))) (List.getD d2.2.2.2.2.2.2.2.1 (0 + Int.toNat d2.2.2.1) ([]:List Int))))),()) : List Int × List (List Int) × Unit)).1,(trimF ((List.take (Int.toNat d2.1) (List.drop 0 d2.2.2.2.2.2.2.1),List.take (Int.toNat d2.2.1) (List.drop 0 (List.set d2.2.2.2.2.2.2.2.1 (0 + Int.toNat d2.2.2.1) (List.take (Int.toNat (wr .i64 (d2.2.2.2.1 - rowF (List.take (Int.toNat d2.1) (List.drop 0 d2.2.2.2.2.2.2.1)) d2.2.2.1))) (List.getD d2.2.2.2.2.2.2.2.1 (0 + Int.toNat d2.2.2.1) ([]:List Int))))),()) : List Int × List (List Int) × Unit)).2.1,()) : List Int × List (List Int) × Unit),()) : (List Int × List (List Int) × Unit) × Unit)))))))))))) else gd ((!ieq (g50_c4 d2) 0) = true → (!ieq (g50_c4 d2) 0) = true) (gd ((!ieq (g50_c4 d2) 0 && (!ieq (g50_c4 d2) 0 && !ieq (g50_c1 d2) 0)) = true → (!ieq (g50_c4 d2) 0 && (!ieq (g50_c4 d2) 0 && !ieq (g50_c1 d2) 0)) = true ∧ (!ieq (g50_c4 d2) 0 && (!ieq (g50_c4 d2) 0 && !ieq (g50_c1 d2) 0)) = true) (gd ((!ieq (g50_c4 d2) 0) = true → (!ieq (g50_c4 d2) 0) = true ∧ (!ieq (g50_c4 d2) 0) = true ∧ ((!ieq (g50_c1 d2) 0) = true → (!ieq (g50_c4 d2) 0 && (!ieq (g50_c4 d2) 0 && !ieq (g50_c1 d2) 0)) = true)) (gd (ieq (g50_c4 d2) 0 = false → (!ieq (g50_c4 d2) 0) = true) (bif bif ieq (g50_c4 d2) 0 then true else bif !ieq (g50_c1 d2) 0 then ilt (g50_c1 d2) (g50_c4 d2) else false then gd (0 ≤ d2.2.2.1 ∧ d2.2.2.1 < (↑(Int.toNat d2.2.1):Int)) (gd (0 + Int.toNat d2.2.2.1 < List.length d2.2.2.2.2.2.2.2.1) (gd (0 ≤ wr .i64 (d2.2.2.2.1 - rowF (List.take (Int.toNat d2.1) (List.drop 0 d2.2.2.2.2.2.2.1)) d2.2.2.1) ∧ wr .i64 (d2.2.2.2.1 - rowF (List.take (Int.toNat d2.1) (List.drop 0 d2.2.2.2.2.2.2.1)) d2.2.2.1) < (↑(List.length (List.getD d2.2.2.2.2.2.2.2.1 (0 + Int.toNat d2.2.2.1) ([]:List Int))):Int)) (gd (0 + Int.toNat (wr .i64 (d2.2.2.2.1 - rowF (List.take (Int.toNat d2.1) (List.drop 0 d2.2.2.2.2.2.2.1)) d2.2.2.1)) < List.length (List.getD d2.2.2.2.2.2.2.2.1 (0 + Int.toNat d2.2.2.1) ([]:List Int))) (some (Lp.go (((↑(Int.toNat d2.1):Int),(↑(Int.toNat d2.2.1):Int),d2.2.2.1,wr .i64 (d2.2.2.2.1 + 1),d2.2.2.2.2.1,d2.2.2.2.2.2.1,d2.2.2.2.2.2.2.1,List.set d2.2.2.2.2.2.2.2.1 (0 + Int.toNat d2.2.2.1) (List.set (List.getD d2.2.2.2.2.2.2.2.1 (0 + Int.toNat d2.2.2.1) ([]:List Int)) (0 + Int.toNat (wr .i64 (d2.2.2.2.1 - rowF (List.take (Int.toNat d2.1) (List.drop 0 d2.2.2.2.2.2.2.1)) d2.2.2.1))) (g50_c1 d2)),()) : Int × Int × Int × Int × List Int × List (List Int) × List Int × List (List Int) × Unit)))))) else gd (0 ≤ d2.2.2.1 ∧ d2.2.2.1 < (↑(Int.toNat d2.2.1):Int)) (gd (0 + Int.toNat d2.2.2.1 < List.length d2.2.2.2.2.2.2.2.1) (gd (0 ≤ wr .i64 (d2.2.2.2.1 - rowF (List.take (Int.toNat d2.1) (List.drop 0 d2.2.2.2.2.2.2.1)) d2.2.2.1) ∧ wr .i64 (d2.2.2.2.1 - rowF (List.take (Int.toNat d2.1) (List.drop 0 d2.2.2.2.2.2.2.1)) d2.2.2.1) < (↑(List.length (List.getD d2.2.2.2.2.2.2.2.1 (0 + Int.toNat d2.2.2.1) ([]:List Int))):Int)) (gd (0 + Int.toNat (wr .i64 (d2.2.2.2.1 - rowF (List.take (Int.toNat d2.1) (List.drop 0 d2.2.2.2.2.2.2.1)) d2.2.2.1)) < List.length (List.getD d2.2.2.2.2.2.2.2.1 (0 + Int.toNat d2.2.2.1) ([]:List Int))) (some (Lp.go (((↑(Int.toNat d2.1):Int),(↑(Int.toNat d2.2.1):Int),wr .i64 (d2.2.2.1 + 1),d2.2.2.2.1,d2.2.2.2.2.1,d2.2.2.2.2.2.1,d2.2.2.2.2.2.2.1,List.set d2.2.2.2.2.2.2.2.1 (0 + Int.toNat d2.2.2.1) (List.set (List.getD d2.2.2.2.2.2.2.2.1 (0 + Int.toNat d2.2.2.1) ([]:List Int)) (0 + Int.toNat (wr .i64 (d2.2.2.2.1 - rowF (List.take (Int.toNat d2.1) (List.drop 0 d2.2.2.2.2.2.2.1)) d2.2.2.1))) (g50_c4 d2)),()) : Int × Int × Int × Int × List Int × List (List Int) × List Int × List (List Int) × Unit)))))))))))))))))) else gd (0 + Int.toNat d2.1 ≤ List.length d2.2.2.2.2.2.2.1) (gd (List.length (List.take (Int.toNat d2.1) (List.drop 0 d2.2.2.2.2.2.2.1)) ≤ 1000) (gd (ieq (g50_c1 d2) 0 = true → ieq (g50_c1 d2) 0 = true) (gd (ieq (g50_c1 d2) 0 = true → ieq (g50_c1 d2) 0 = true) (bif bif ieq (g50_c1 d2) 0 then ieq 0 0 else false then gd (0 ≤ d2.2.2.1 ∧ d2.2.2.1 < (↑(Int.toNat d2.2.1):Int)) (gd (0 + Int.toNat d2.2.2.1 < List.length d2.2.2.2.2.2.2.2.1) (gd (0 ≤ wr .i64 (d2.2.2.2.1 - rowF (List.take (Int.toNat d2.1) (List.drop 0 d2.2.2.2.2.2.2.1)) d2.2.2.1) ∧ wr .i64 (d2.2.2.2.1 - rowF (List.take (Int.toNat d2.1) (List.drop 0 d2.2.2.2.2.2.2.1)) d2.2.2.1) ≤ (↑(List.length (List.getD d2.2.2.2.2.2.2.2.1 (0 + Int.toNat d2.2.2.1) ([]:List Int))):Int)) (gd (0 ≤ d2.2.2.1 ∧ d2.2.2.1 < (↑(Int.toNat d2.2.1):Int)) (gd (0 + Int.toNat d2.2.2.1 < List.length d2.2.2.2.2.2.2.2.1) (gd (0 + Int.toNat d2.2.2.1 = 0 + Int.toNat d2.2.2.1) (gd (Int.toNat (wr .i64 (d2.2.2.2.1 - rowF (List.take (Int.toNat d2.1) (List.drop 0 d2.2.2.2.2.2.2.1)) d2.2.2.1)) ≤ List.length (List.getD d2.2.2.2.2.2.2.2.1 (0 + Int.toNat d2.2.2.1) ([]:List Int))) (gd (0 + Int.toNat d2.1 ≤ List.length d2.2.2.2.2.2.2.1) (gd (0 + Int.toNat d2.2.1 ≤ List.length (List.set d2.2.2.2.2.2.2.2.1 (0 + Int.toNat d2.2.2.1) (List.take (Int.toNat (wr .i64 (d2.2.2.2.1 - rowF (List.take (Int.toNat d2.1) (List.drop 0 d2.2.2.2.2.2.2.1)) d2.2.2.1))) (List.getD d2.2.2.2.2.2.2.2.1 (0 + Int.toNat d2.2.2.1) ([]:List Int))))) (gd (okRs ((List.take (Int.toNat d2.1) (List.drop 0 d2.2.2.2.2.2.2.1),List.take (Int.toNat d2.2.1) (List.drop 0 (List.set d2.2.2.2.2.2.2.2.1 (0 + Int.toNat d2.2.2.1) (List.take (Int.toNat (wr .i64 (d2.2.2.2.1 - rowF (List.take (Int.toNat d2.1) (List.drop 0 d2.2.2.2.2.2.2.1)) d2.2.2.1))) (List.getD d2.2.2.2.2.2.2.2.1 (0 + Int.toNat d2.2.2.1) ([]:List Int))))),()) : List Int × List (List Int) × Unit)) (some (Lp.out (((((trimF ((List.take (Int.toNat d2.1) (List.drop 0 d2.2.2.2.2.2.2.1),List.take (Int.toNat d2.2.1) (List.drop 0 (List.set d2.2.2.2.2.2.2.2.1 (0 + Int.toNat d2.2.2.1) (List.take (Int.toNat (wr .i64 (d2.2.2.2.1 - rowF (List.take (Int.toNat d2.1) (List.drop 0 d2.2.2.2.2.2.2.1)) d2.2.2.1))) (List.getD d2.2.2.2.2.2.2.2.1 (0 + Int.toNat d2.2.2.1) ([]:List Int))))),()) : List Int × List (List Int) × Unit)).1,(trimF ((List.take (Int.toNat d2.1) (List.drop 0 d2.2.2.2.2.2.2.1),List.take (Int.toNat d2.2.1) (List.drop 0 (List.set d2.2.2.2.2.2.2.2.1 (0 + Int.toNat d2.2.2.1) (List.take (Int.toNat (wr .i64 (d2.2.2.2.1 - rowF (List.take (Int.toNat d2.1) (List.drop 0 d2.2.2.2.2.2.2.1)) d2.2.2.1))) (List.getD d2.2.2.2.2.2.2.2.1 (0 + Int.toNat d2.2.2.1) ([]:List Int))))),()) : List Int × List (List Int) × Unit)).2.1,()) : List Int × List (List Int) × Unit),()) : (List Int × List (List Int) × Unit) × Unit)))))))))))) else gd ((!ieq 0 0) = true → (!ieq 0 0) = true) (gd ((!ieq 0 0 && (!ieq 0 0 && !ieq (g50_c1 d2) 0)) = true → (!ieq 0 0 && (!ieq 0 0 && !ieq (g50_c1 d2) 0)) = true ∧ (!ieq 0 0 && (!ieq 0 0 && !ieq (g50_c1 d2) 0)) = true) (gd ((!ieq 0 0) = true → (!ieq 0 0) = true ∧ (!ieq 0 0) = true ∧ ((!ieq (g50_c1 d2) 0) = true → (!ieq 0 0 && (!ieq 0 0 && !ieq (g50_c1 d2) 0)) = true)) (gd (ieq 0 0 = false → (!ieq 0 0) = true) (bif bif ieq 0 0 then true else bif !ieq (g50_c1 d2) 0 then ilt (g50_c1 d2) 0 else false then gd (0 ≤ d2.2.2.1 ∧ d2.2.2.1 < (↑(Int.toNat d2.2.1):Int)) (gd (0 + Int.toNat d2.2.2.1 < List.length d2.2.2.2.2.2.2.2.1) (gd (0 ≤ wr .i64 (d2.2.2.2.1 - rowF (List.take (Int.toNat d2.1) (List.drop 0 d2.2.2.2.2.2.2.1)) d2.2.2.1) ∧ wr .i64 (d2.2.2.2.1 - rowF (List.take (Int.toNat d2.1) (List.drop 0 d2.2.2.2.2.2.2.1)) d2.2.2.1) < (↑(List.length (List.getD d2.2.2.2.2.2.2.2.1 (0 + Int.toNat d2.2.2.1) ([]:List Int))):Int)) (gd (0 + Int.toNat (wr .i64 (d2.2.2.2.1 - rowF (List.take (Int.toNat d2.1) (List.drop 0 d2.2.2.2.2.2.2.1)) d2.2.2.1)) < List.length (List.getD d2.2.2.2.2.2.2.2.1 (0 + Int.toNat d2.2.2.1) ([]:List Int))) (some (Lp.go (((↑(Int.toNat d2.1):Int),(↑(Int.toNat d2.2.1):Int),d2.2.2.1,wr .i64 (d2.2.2.2.1 + 1),d2.2.2.2.2.1,d2.2.2.2.2.2.1,d2.2.2.2.2.2.2.1,List.set d2.2.2.2.2.2.2.2.1 (0 + Int.toNat d2.2.2.1) (List.set (List.getD d2.2.2.2.2.2.2.2.1 (0 + Int.toNat d2.2.2.1) ([]:List Int)) (0 + Int.toNat (wr .i64 (d2.2.2.2.1 - rowF (List.take (Int.toNat d2.1) (List.drop 0 d2.2.2.2.2.2.2.1)) d2.2.2.1))) (g50_c1 d2)),()) : Int × Int × Int × Int × List Int × List (List Int) × List Int × List (List Int) × Unit)))))) else gd (0 ≤ d2.2.2.1 ∧ d2.2.2.1 < (↑(Int.toNat d2.2.1):Int)) (gd (0 + Int.toNat d2.2.2.1 < List.length d2.2.2.2.2.2.2.2.1) (gd (0 ≤ wr .i64 (d2.2.2.2.1 - rowF (List.take (Int.toNat d2.1) (List.drop 0 d2.2.2.2.2.2.2.1)) d2.2.2.1) ∧ wr .i64 (d2.2.2.2.1 - rowF (List.take (Int.toNat d2.1) (List.drop 0 d2.2.2.2.2.2.2.1)) d2.2.2.1) < (↑(List.length (List.getD d2.2.2.2.2.2.2.2.1 (0 + Int.toNat d2.2.2.1) ([]:List Int))):Int)) (gd (0 + Int.toNat (wr .i64 (d2.2.2.2.1 - rowF (List.take (Int.toNat d2.1) (List.drop 0 d2.2.2.2.2.2.2.1)) d2.2.2.1)) < List.length (List.getD d2.2.2.2.2.2.2.2.1 (0 + Int.toNat d2.2.2.1) ([]:List Int))) (some (Lp.go (((↑(Int.toNat d2.1):Int),(↑(Int.toNat d2.2.1):Int),wr .i64 (d2.2.2.1 + 1),d2.2.2.2.1,d2.2.2.2.2.1,d2.2.2.2.2.2.1,d2.2.2.2.2.2.2.1,List.set d2.2.2.2.2.2.2.2.1 (0 + Int.toNat d2.2.2.1) (List.set (List.getD d2.2.2.2.2.2.2.2.1 (0 + Int.toNat d2.2.2.1) ([]:List Int)) (0 + Int.toNat (wr .i64 (d2.2.2.2.1 - rowF (List.take (Int.toNat d2.1) (List.drop 0 d2.2.2.2.2.2.2.1)) d2.2.2.1))) 0),()) : Int × Int × Int × Int × List Int × List (List Int) × List Int × List (List Int) × Unit)))))))))))))))))))))) else gd (0 + Int.toNat d2.1 ≤ List.length d2.2.2.2.2.2.2.1) (gd (List.length (List.take (Int.toNat d2.1) (List.drop 0 d2.2.2.2.2.2.2.1)) ≤ 1000) (gd (ieq (g50_c1 d2) 0 = true → ieq (g50_c1 d2) 0 = true) (gd (ieq (g50_c1 d2) 0 = true → ieq (g50_c1 d2) 0 = true) (bif bif ieq (g50_c1 d2) 0 then ieq 0 0 else false then gd (0 ≤ d2.2.2.1 ∧ d2.2.2.1 < (↑(Int.toNat d2.2.1):Int)) (gd (0 + Int.toNat d2.2.2.1 < List.length d2.2.2.2.2.2.2.2.1) (gd (0 ≤ wr .i64 (d2.2.2.2.1 - rowF (List.take (Int.toNat d2.1) (List.drop 0 d2.2.2.2.2.2.2.1)) d2.2.2.1) ∧ wr .i64 (d2.2.2.2.1 - rowF (List.take (Int.toNat d2.1) (List.drop 0 d2.2.2.2.2.2.2.1)) d2.2.2.1) ≤ (↑(List.length (List.getD d2.2.2.2.2.2.2.2.1 (0 + Int.toNat d2.2.2.1) ([]:List Int))):Int)) (gd (0 ≤ d2.2.2.1 ∧ d2.2.2.1 < (↑(Int.toNat d2.2.1):Int)) (gd (0 + Int.toNat d2.2.2.1 < List.length d2.2.2.2.2.2.2.2.1) (gd (0 + Int.toNat d2.2.2.1 = 0 + Int.toNat d2.2.2.1) (gd (Int.toNat (wr .i64 (d2.2.2.2.1 - rowF (List.take (Int.toNat d2.1) (List.drop 0 d2.2.2.2.2.2.2.1)) d2.2.2.1)) ≤ List.length (List.getD d2.2.2.2.2.2.2.2.1 (0 + Int.toNat d2.2.2.1) ([]:List Int))) (gd (0 + Int.toNat d2.1 ≤ List.length d2.2.2.2.2.2.2.1) (gd (0 + Int.toNat d2.2.1 ≤ List.length (List.set d2.2.2.2.2.2.2.2.1 (0 + Int.toNat d2.2.2.1) (List.take (Int.toNat (wr .i64 (d2.2.2.2.1 - rowF (List.take (Int.toNat d2.1) (List.drop 0 d2.2.2.2.2.2.2.1)) d2.2.2.1))) (List.getD d2.2.2.2.2.2.2.2.1 (0 + Int.toNat d2.2.2.1) ([]:List Int))))) (gd (okRs ((List.take (Int.toNat d2.1) (List.drop 0 d2.2.2.2.2.2.2.1),List.take (Int.toNat d2.2.1) (List.drop 0 (List.set d2.2.2.2.2.2.2.2.1 (0 + Int.toNat d2.2.2.1) (List.take (Int.toNat (wr .i64 (d2.2.2.2.1 - rowF (List.take (Int.toNat d2.1) (List.drop 0 d2.2.2.2.2.2.2.1)) d2.2.2.1))) (List.getD d2.2.2.2.2.2.2.2.1 (0 + Int.toNat d2.2.2.1) ([]:List Int))))),()) : List Int × List (List Int) × Unit)) (some (Lp.out (((((trimF ((List.take (Int.toNat d2.1) (List.drop 0 d2.2.2.2.2.2.2.1),List.take (Int.toNat d2.2.1) (List.drop 0 (List.set d2.2.2.2.2.2.2.2.1 (0 + Int.toNat d2.2.2.1) (List.take (Int.toNat (wr .i64 (d2.2.2.2.1 - rowF (List.take (Int.toNat d2.1) (List.drop 0 d2.2.2.2.2.2.2.1)) d2.2.2.1))) (List.getD d2.2.2.2.2.2.2.2.1 (0 + Int.toNat d2.2.2.1) ([]:List Int))))),()) : List Int × List (List Int) × Unit)).1,(trimF ((List.take (Int.toNat d2.1) (List.drop 0 d2.2.2.2.2.2.2.1),List.take (Int.toNat d2.2.1) (List.drop 0 (List.set d2.2.2.2.2.2.2.2.1 (0 + Int.toNat d2.2.2.1) (List.take (Int.toNat (wr .i64 (d2.2.2.2.1 - rowF (List.take (Int.toNat d2.1) (List.drop 0 d2.2.2.2.2.2.2.1)) d2.2.2.1))) (List.getD d2.2.2.2.2.2.2.2.1 (0 + Int.toNat d2.2.2.1) ([]:List Int))))),()) : List Int × List (List Int) × Unit)).2.1,()) : List Int × List (List Int) × Unit),()) : (List Int × List (List Int) × Unit) × Unit)))))))))))) else gd ((!ieq 0 0) = true → (!ieq 0 0) = true) (gd ((!ieq 0 0 && (!ieq 0 0 && !ieq (g50_c1 d2) 0)) = true → (!ieq 0 0 && (!ieq 0 0 && !ieq (g50_c1 d2) 0)) = true ∧ (!ieq 0 0 && (!ieq 0 0 && !ieq (g50_c1 d2) 0)) = true) (gd ((!ieq 0 0) = true → (!ieq 0 0) = true ∧ (!ieq 0 0) = true ∧ ((!ieq (g50_c1 d2) 0) = true → (!ieq 0 0 && (!ieq 0 0 && !ieq (g50_c1 d2) 0)) = true)) (gd (ieq 0 0 = false → (!ieq 0 0) = true) (bif bif ieq 0 0 then true else bif !ieq (g50_c1 d2) 0 then ilt (g50_c1 d2) 0 else false then gd (0 ≤ d2.2.2.1 ∧ d2.2.2.1 < (↑(Int.toNat d2.2.1):Int)) (gd (0 + Int.toNat d2.2.2.1 < List.length d2.2.2.2.2.2.2.2.1) (gd (0 ≤ wr .i64 (d2.2.2.2.1 - rowF (List.take (Int.toNat d2.1) (List.drop 0 d2.2.2.2.2.2.2.1)) d2.2.2.1) ∧ wr .i64 (d2.2.2.2.1 - rowF (List.take (Int.toNat d2.1) (List.drop 0 d2.2.2.2.2.2.2.1)) d2.2.2.1) < (↑(List.length (List.getD d2.2.2.2.2.2.2.2.1 (0 + Int.toNat d2.2.2.1) ([]:List Int))):Int)) (gd (0 + Int.toNat (wr .i64 (d2.2.2.2.1 - rowF (List.take (Int.toNat d2.1) (List.drop 0 d2.2.2.2.2.2.2.1)) d2.2.2.1)) < List.length (List.getD d2.2.2.2.2.2.2.2.1 (0 + Int.toNat d2.2.2.1) ([]:List Int))) (some (Lp.go (((↑(Int.toNat d2.1):Int),(↑(Int.toNat d2.2.1):Int),d2.2.2.1,wr .i64 (d2.2.2.2.1 + 1),d2.2.2.2.2.1,d2.2.2.2.2.2.1,d2.2.2.2.2.2.2.1,List.set d2.2.2.2.2.2.2.2.1 (0 + Int.toNat d2.2.2.1) (List.set (List.getD d2.2.2.2.2.2.2.2.1 (0 + Int.toNat d2.2.2.1) ([]:List Int)) (0 + Int.toNat (wr .i64 (d2.2.2.2.1 - rowF (List.take (Int.toNat d2.1) (List.drop 0 d2.2.2.2.2.2.2.1)) d2.2.2.1))) (g50_c1 d2)),()) : Int × Int × Int × Int × List Int × List (List Int) × List Int × List (List Int) × Unit)))))) else gd (0 ≤ d2.2.2.1 ∧ d2.2.2.1 < (↑(Int.toNat d2.2.1):Int)) (gd (0 + Int.toNat d2.2.2.1 < List.length d2.2.2.2.2.2.2.2.1) (gd (0 ≤ wr .i64 (d2.2.2.2.1 - rowF (List.take (Int.toNat d2.1) (List.drop 0 d2.2.2.2.2.2.2.1)) d2.2.2.1) ∧ wr .i64 (d2.2.2.2.1 - rowF (List.take (Int.toNat d2.1) (List.drop 0 d2.2.2.2.2.2.2.1)) d2.2.2.1) < (↑(List.length (List.getD d2.2.2.2.2.2.2.2.1 (0 + Int.toNat d2.2.2.1) ([]:List Int))):Int)) (gd (0 + Int.toNat (wr .i64 (d2.2.2.2.1 - rowF (List.take (Int.toNat d2.1) (List.drop 0 d2.2.2.2.2.2.2.1)) d2.2.2.1)) < List.length (List.getD d2.2.2.2.2.2.2.2.1 (0 + Int.toNat d2.2.2.1) ([]:List Int))) (some (Lp.go (((↑(Int.toNat d2.1):Int),(↑(Int.toNat d2.2.1):Int),wr .i64 (d2.2.2.1 + 1),d2.2.2.2.1,d2.2.2.2.2.1,d2.2.2.2.2.2.1,d2.2.2.2.2.2.2.1,List.set d2.2.2.2.2.2.2.2.1 (0 + Int.toNat d2.2.2.1) (List.set (List.getD d2.2.2.2.2.2.2.2.1 (0 + Int.toNat d2.2.2.1) ([]:List Int)) (0 + Int.toNat (wr .i64 (d2.2.2.2.1 - rowF (List.take (Int.toNat d2.1) (List.drop 0 d2.2.2.2.2.2.2.1)) d2.2.2.1))) 0),()) : Int × Int × Int × Int × List Int × List (List Int) × List Int × List (List Int) × Unit)))))))))))))))))) else bif ilt (wr .i64 (d2.2.2.1 + 1)) (↑(Int.toNat d2.2.1):Int) then gd (0 + Int.toNat d2.1 ≤ List.length d2.2.2.2.2.2.2.1) (gd (List.length (List.take (Int.toNat d2.1) (List.drop 0 d2.2.2.2.2.2.2.1)) ≤ 1000) (gd (ile 0 (g50_c2 d2) = true → ile 0 (g50_c2 d2) = true) (gd (ile 0 (g50_c2 d2) = true → ile 0 (g50_c2 d2) = true ∧ ile 0 (g50_c2 d2) = true ∧ 0 ≤ wr .i64 (d2.2.2.1 + 1) ∧ wr .i64 (d2.2.2.1 + 1) < (↑(Int.toNat d2.2.1):Int)) (gd (ile 0 (g50_c2 d2) = true → ile 0 (g50_c2 d2) = true ∧ 0 + Int.toNat (wr .i64 (d2.2.2.1 + 1)) < List.length d2.2.2.2.2.2.2.2.1) (gd (ile 0 (g50_c2 d2) = true → ile 0 (g50_c2 d2) = true) (gd (ile 0 (g50_c2 d2) = true → ile 0 (g50_c2 d2) = true ∧ ile 0 (g50_c2 d2) = true) (gd (ile 0 (g50_c2 d2) = true → ile 0 (g50_c2 d2) = true) (bif bif ile 0 (g50_c2 d2) then g50_c3 d2 else false then gd (0 ≤ wr .i64 (d2.2.2.1 + 1) ∧ wr .i64 (d2.2.2.1 + 1) < (↑(Int.toNat d2.2.1):Int)) (gd (0 + Int.toNat (wr .i64 (d2.2.2.1 + 1)) < List.length d2.2.2.2.2.2.2.2.1) (gd (0 ≤ g50_c2 d2 ∧ g50_c2 d2 < (↑(List.length (List.getD d2.2.2.2.2.2.2.2.1 (0 + Int.toNat (wr .i64 (d2.2.2.1 + 1))) ([]:List Int))):Int)) (gd (0 + Int.toNat (g50_c2 d2) < List.length (List.getD d2.2.2.2.2.2.2.2.1 (0 + Int.toNat (wr .i64 (d2.2.2.1 + 1))) ([]:List Int))) (gd (0 + Int.toNat d2.1 ≤ List.length d2.2.2.2.2.2.2.1) (gd (List.length (List.take (Int.toNat d2.1) (List.drop 0 d2.2.2.2.2.2.2.1)) ≤ 1000) (gd (ieq 0 0 = true → ieq 0 0 = true) (gd (ieq 0 0 = true → ieq 0 0 = true) (bif bif ieq 0 0 then ieq (g50_c4 d2) 0 else false then gd (0 ≤ d2.2.2.1 ∧ d2.2.2.1 < (↑(Int.toNat d2.2.1):Int)) (gd (0 + Int.toNat d2.2.2.1 < List.length d2.2.2.2.2.2.2.2.1) (gd (0 ≤ wr .i64 (d2.2.2.2.1 - rowF (List.take (Int.toNat d2.1) (List.drop 0 d2.2.2.2.2.2.2.1)) d2.2.2.1) ∧ wr .i64 (d2.2.2.2.1 - rowF (List.take (Int.toNat d2.1) (List.drop 0 d2.2.2.2.2.2.2.1)) d2.2.2.1) ≤ (↑(List.length (List.getD d2.2.2.2.2.2.2.2.1 (0 + Int.toNat d2.2.2.1) ([]:List Int))):Int)) (gd (0 ≤ d2.2.2.1 ∧ d2.2.2.1 < (↑(Int.toNat d2.2.1):Int)) (gd (0 + Int.toNat d2.2.2.1 < List.length d2.2.2.2.2.2.2.2.1) (gd (0 + Int.toNat d2.2.2.1 = 0 + Int.toNat d2.2.2.1) (gd (Int.toNat (wr .i64 (d2.2.2.2.1 - rowF (List.take (Int.toNat d2.1) (List.drop 0 d2.2.2.2.2.2.2.1)) d2.2.2.1)) ≤ List.length (List.getD d2.2.2.2.2.2.2.2.1 (0 + Int.toNat d2.2.2.1) ([]:List Int))) (gd (0 + Int.toNat d2.1 ≤ List.length d2.2.2.2.2.2.2.1) (gd (0 + Int.toNat d2.2.1 ≤ List.length (List.set d2.2.2.2.2.2.2.2.1 (0 + Int.toNat d2.2.2.1) (List.take (Int.toNat (wr .i64 (d2.2.2.2.1 - rowF (List.take (Int.toNat d2.1) (List.drop 0 d2.2.2.2.2.2.2.1)) d2.2.2.1))) (List.getD d2.2.2.2.2.2.2.2.1 (0 + Int.toNat d2.2.2.1) ([]:List Int))))) (gd (okRs ((List.take (Int.toNat d2.1) (List.drop 0 d2.2.2.2.2.2.2.1),List.take (Int.toNat d2.2.1) (List.drop 0 (List.set d2.2.2.2.2.2.2.2.1 (0 + Int.toNat d2.2.2.1) (List.take (Int.toNat (wr .i64 (d2.2.2.2.1 - rowF (List.take (Int.toNat d2.1) (List.drop 0 d2.2.2.2.2.2.2.1)) d2.2.2.1))) (List.getD d2.2.2.2.2.2.2.2.1 (0 + Int.toNat d2.2.2.1) ([]:List Int))))),()) : List Int × List (List Int) × Unit)) (some (Lp.out (((((trimF ((List.take (Int.toNat d2.1) (List.drop 0 d2.2.2.2.2.2.2.1),List.take (Int.toNat d2.2.1) (List.drop 0 (List.set d2.2.2.2.2.2.2.2.1 (0 + Int.toNat d2.2.2.1) (List.take (Int.toNat (wr .i64 (d2.2.2.2.1 - rowF (List.take (Int.toNat d2.1) (List.drop 0 d2.2.2.2.2.2.2.1)) d2.2.2.1))) (List.getD d2.2.2.2.2.2.2.2.1 (0 + Int.toNat d2.2.2.1) ([]:List Int))))),()) : List Int × List (List Int) × Unit)).1,(trimF ((List.take (Int.toNat d2.1) (List.drop 0 d2.2.2.2.2.2.2.1),List.take (Int.toNat d2.2.1) (List.drop 0 (List.set d2.2.2.2.2.2.2.2.1 (0 + Int.toNat d2.2.2.1) (List.take (Int.toNat (wr .i64 (d2.2.2.2.1 - rowF (List.take (Int.toNat d2.1) (List.drop 0 d2.2.2.2.2.2.2.1)) d2.2.2.1))) (List.getD d2.2.2.2.2.2.2.2.1 (0 + Int.toNat d2.2.2.1) ([]:List Int))))),()) : List Int × List (List Int) × Unit)).2.1,()) : List Int × List (List Int) × Unit),()) : (List Int × List (List Int) × Unit) × Unit)))))))))))) else gd ((!ieq (g50_c4 d2) 0) = true → (!ieq (g50_c4 d2) 0) = true) (gd ((!ieq (g50_c4 d2) 0 && (!ieq (g50_c4 d2) 0 && !ieq 0 0)) = true → (!ieq (g50_c4 d2) 0 && (!ieq (g50_c4 d2) 0 && !ieq 0 0)) = true ∧ (!ieq (g50_c4 d2) 0 && (!ieq (g50_c4 d2) 0 && !ieq 0 0)) = true) (gd ((!ieq (g50_c4 d2) 0) = true → (!ieq (g50_c4 d2) 0) = true ∧ (!ieq (g50_c4 d2) 0) = true ∧ ((!ieq 0 0) = true → (!ieq (g50_c4 d2) 0 && (!ieq (g50_c4 d2) 0 && !ieq 0 0)) = true)) (gd (ieq (g50_c4 d2) 0 = false → (!ieq (g50_c4 d2) 0) = true) (bif bif ieq (g50_c4 d2) 0 then true else bif !ieq 0 0 then ilt 0 (g50_c4 d2) else false then gd (0 ≤ d2.2.2.1 ∧ d2.2.2.1 < (↑(Int.toNat d2.2.1):Int)) (gd (0 + Int.toNat d2.2.2.1 < List.length d2.2.2.2.2.2.2.2.1) (gd (0 ≤ wr .i64 (d2.2.2.2.1 - rowF (List.take (Int.toNat d2.1) (List.drop 0 d2.2.2.2.2.2.2.1)) d2.2.2.1) ∧ wr .i64 (d2.2.2.2.1 - rowF (List.take (Int.toNat d2.1) (List.drop 0 d2.2.2.2.2.2.2.1)) d2.2.2.1) < (↑(List.length (List.getD d2.2.2.2.2.2.2.2.1 (0 + Int.toNat d2.2.2.1) ([]:List Int))):Int)) (gd (0 + Int.toNat (wr .i64 (d2.2.2.2.1 - rowF (List.take (Int.toNat d2.1) (List.drop 0 d2.2.2.2.2.2.2.1)) d2.2.2.1)) < List.length (List.getD d2.2.2.2.2.2.2.2.1 (0 + Int.toNat d2.2.2.1) ([]:List Int))) (some (Lp.go (((↑(Int.toNat d2.1):Int),(↑(Int.toNat d2.2.1):Int),d2.2.2.1,wr .i64 (d2.2.2.2.1 + 1),d2.2.2.2.2.1,d2.2.2.2.2.2.1,d2.2.2.2.2.2.2.1,List.set d2.2.2.2.2.2.2.2.1 (0 + Int.toNat d2.2.2.1) (List.set (List.getD d2.2.2.2.2.2.2.2.1 (0 + Int.toNat d2.2.2.1) ([]:List Int)) (0 + Int.toNat (wr .i64 (d2.2.2.2.1 - rowF (List.take (Int.toNat d2.1) (List.drop 0 d2.2.2.2.2.2.2.1)) d2.2.2.1))) 0),()) : Int × Int × Int × Int × List Int × List (List Int) × List Int × List (List Int) × Unit)))))) else gd (0 ≤ d2.2.2.1 ∧ d2.2.2.1 < (↑(Int.toNat d2.2.1):Int)) (gd (0 + Int.toNat d2.2.2.1 < List.length d2.2.2.2.2.2.2.2.1) (gd (0 ≤ wr .i64 (d2.2.2.2.1 - rowF (List.take (Int.toNat d2.1) (List.drop 0 d2.2.2.2.2.2.2.1)) d2.2.2.1) ∧ wr .i64 (d2.2.2.2.1 - rowF (List.take (Int.toNat d2.1) (List.drop 0 d2.2.2.2.2.2.2.1)) d2.2.2.1) < (↑(List.length (List.getD d2.2.2.2.2.2.2.2.1 (0 + Int.toNat d2.2.2.1) ([]:List Int))):Int)) (gd (0 + Int.toNat (wr .i64 (d2.2.2.2.1 - rowF (List.take (Int.toNat d2.1) (List.drop 0 d2.2.2.2.2.2.2.1)) d2.2.2.1)) < List.length (List.getD d2.2.2.2.2.2.2.2.1 (0 + Int.toNat d2.2.2.1) ([]:List Int))) (some (Lp.go (((↑(Int.toNat d2.1):Int),(↑(Int.toNat d2.2.1):Int),wr .i64 (d2.2.2.1 + 1),d2.2.2.2.1,d2.2.2.2.2.1,d2.2.2.2.2.2.1,d2.2.2.2.2.2.2.1,List.set d2.2.2.2.2.2.2.2.1 (0 + Int.toNat d2.2.2.1) (List.set (List.getD d2.2.2.2.2.2.2.2.1 (0 + Int.toNat d2.2.2.1) ([]:List Int)) (0 + Int.toNat (wr .i64 (d2.2.2.2.1 - rowF (List.take (Int.toNat d2.1) (List.drop 0 d2.2.2.2.2.2.2.1)) d2.2.2.1))) (g50_c4 d2)),()) : Int × Int × Int × Int × List Int × List (List Int) × List Int × List (List Int) × Unit)))))))))))))))))) else gd (0 + Int.toNat d2.1 ≤ List.length d2.2.2.2.2.2.2.1) (gd (List.length (List.take (Int.toNat d2.1) (List.drop 0 d2.2.2.2.2.2.2.1)) ≤ 1000) (gd (ieq 0 0 = true → ieq 0 0 = true) (gd (ieq 0 0 = true → ieq 0 0 = true) (bif bif ieq 0 0 then ieq 0 0 else false then gd (0 ≤ d2.2.2.1 ∧ d2.2.2.1 < (↑(Int.toNat d2.2.1):Int)) (gd (0 + Int.toNat d2.2.2.1 < List.length d2.2.2.2.2.2.2.2.1) (gd (0 ≤ wr .i64 (d2.2.2.2.1 - rowF (List.take (Int.toNat d2.1) (List.drop 0 d2.2.2.2.2.2.2.1)) d2.2.2.1) ∧ wr .i64 (d2.2.2.2.1 - rowF (List.take (Int.toNat d2.1) (List.drop 0 d2.2.2.2.2.2.2.1)) d2.2.2.1) ≤ (↑(List.length (List.getD d2.2.2.2.2.2.2.2.1 (0 + Int.toNat d2.2.2.1) ([]:List Int))):Int)) (gd (0 ≤ d2.2.2.1 ∧ d2.2.2.1 < (↑(Int.toNat d2.2.1):Int)) (gd (0 + Int.toNat d2.2.2.1 < List.length d2.2.2.2.2.2.2.2.1) (gd (0 + Int.toNat d2.2.2.1 = 0 + Int.toNat d2.2.2.1) (gd (Int.toNat (wr .i64 (d2.2.2.2.1 - rowF (List.take (Int.toNat d2.1) (List.drop 0 d2.2.2.2.2.2.2.1)) d2.2.2.1)) ≤ List.length (List.getD d2.2.2.2.2.2.2.2.1 (0 + Int.toNat d2.2.2.1) ([]:List Int))) (gd (0 + Int.toNat d2.1 ≤ List.length d2.2.2.2.2.2.2.1) (gd (0 + Int.toNat d2.2.1 ≤ List.length (List.set d2.2.2.2.2.2.2.2.1 (0 + Int.toNat d2.2.2.1) (List.take (Int.toNat (wr .i64 (d2.2.2.2.1 - rowF (List.take (Int.toNat d2.1) (List.drop 0 d2.2.2.2.2.2.2.1)) d2.2.2.1))) (List.getD d2.2.2.2.2.2.2.2.1 (0 + Int.toNat d2.2.2.1) ([]:List Int))))) (gd (okRs ((List.take (Int.toNat d2.1) (List.drop 0 d2.2.2.2.2.2.2.1),List.take (Int.toNat d2.2.1) (List.drop 0 (List.set d2.2.2.2.2.2.2.2.1 (0 + Int.toNat d2.2.2.1) (List.take (Int.toNat (wr .i64 (d2.2.2.2.1 - rowF (List.take (Int.toNat d2.1) (List.drop 0 d2.2.2.2.2.2.2.1)) d2.2.2.1))) (List.getD d2.2.2.2.2.2.2.2.1 (0 + Int.toNat d2.2.2.1) ([]:List Int))))),()) : List Int × List (List Int) × Unit)) (some (Lp.out (((((trimF ((List.take (Int.toNat d2.1) (List.drop 0 d2.2.2.2.2.2.2.1),List.take (Int.toNat d2.2.1) (List.drop 0 (List.set d2.2.2.2.2.2.2.2.1 (0 + Int.toNat d2.2.2.1) (List.take (Int.toNat (wr .i64 (d2.2.2.2.1 - rowF (List.take (Int.toNat d2.1) (List.drop 0 d2.2.2.2.2.2.2.1)) d2.2.2.1))) (List.getD d2.2.2.2.2.2.2.2.1 (0 + Int.toNat d2.2.2.1) ([]:List Int))))),()) : List Int × List (List Int) × Unit)).1,(trimF ((List.take (Int.toNat d2.1) (List.drop 0 d2.2.2.2.2.2.2.1),List.take (Int.toNat d2.2.1) (List.drop 0 (List.set d2.2.2.2.2.2.2.2.1 (0 + Int.toNat d2.2.2.1) (List.take (Int.toNat (wr .i64 (d2.2.2.2.1 - rowF (List.take (Int.toNat d2.1) (List.drop 0 d2.2.2.2.2.2.2.1)) d2.2.2.1))) (List.getD d2.2.2.2.2.2.2.2.1 (0 + Int.toNat d2.2.2.1) ([]:List Int))))),()) : List Int × List (List Int) × Unit)).2.1,()) : List Int × List (List Int) × Unit),()) : (List Int × List (List Int) × Unit) × Unit)))))))))))) else gd ((!ieq 0 0) = true → (!ieq 0 0) = true) (gd ((!ieq 0 0 && (!ieq 0 0 && !ieq 0 0)) = true → (!ieq 0 0 && (!ieq 0 0 && !ieq 0 0)) = true ∧ (!ieq 0 0 && (!ieq 0 0 && !ieq 0 0)) = true) (gd ((!ieq 0 0) = true → (!ieq 0 0) = true ∧ (!ieq 0 0) = true ∧ ((!ieq 0 0) = true → (!ieq 0 0 && (!ieq 0 0 && !ieq 0 0)) = true)) (gd (ieq 0 0 = false → (!ieq 0 0) = true) (bif bif ieq 0 0 then true else bif !ieq 0 0 then ilt 0 0 else false then gd (0 ≤ d2.2.2.1 ∧ d2.2.2.1 < (↑(Int.toNat d2.2.1):Int)) (gd (0 + Int.toNat d2.2.2.1 < List.length d2.2.2.2.2.2.2.2.1) (gd (0 ≤ wr .i64 (d2.2.2.2.1 - rowF (List.take (Int.toNat d2.1) (List.drop 0 d2.2.2.2.2.2.2.1)) d2.2.2.1) ∧ wr .i64 (d2.2.2.2.1 - rowF (List.take (Int.toNat d2.1) (List.drop 0 d2.2.2.2.2.2.2.1)) d2.2.2.1) < (↑(List.length (List.getD d2.2.2.2.2.2.2.2.1 (0 + Int.toNat d2.2.2.1) ([]:List Int))):Int)) (gd (0 + Int.toNat (wr .i64 (d2.2.2.2.1 - rowF (List.take (Int.toNat d2.1) (List.drop 0 d2.2.2.2.2.2.2.1)) d2.2.2.1)) < List.length (List.getD d2.2.2.2.2.2.2.2.1 (0 + Int.toNat d2.2.2.1) ([]:List Int))) (some (Lp.go (((↑(Int.toNat d2.1):Int),(↑(Int.toNat d2.2.1):Int),d2.2.2.1,wr .i64 (d2.2.2.2.1 + 1),d2.2.2.2.2.1,d2.2.2.2.2.2.1,d2.2.2.2.2.2.2.1,List.set d2.2.2.2.2.2.2.2.1 (0 + Int.toNat d2.2.2.1) (List.set (List.getD d2.2.2.2.2.2.2.2.1 (0 + Int.toNat d2.2.2.1) ([]:List Int)) (0 + Int.toNat (wr .i64 (d2.2.2.2.1 - rowF (List.take (Int.toNat d2.1) (List.drop 0 d2.2.2.2.2.2.2.1)) d2.2.2.1))) 0),()) : Int × Int × Int × Int × List Int × List (List Int) × List Int × List (List Int) × Unit)))))) else gd (0 ≤ d2.2.2.1 ∧ d2.2.2.1 < (↑(Int.toNat d2.2.1):Int)) (gd (0 + Int.toNat d2.2.2.1 < List.length d2.2.2.2.2.2.2.2.1) (gd (0 ≤ wr .i64 (d2.2.2.2.1 - rowF (List.take (Int.toNat d2.1) (List.drop 0 d2.2.2.2.2.2.2.1)) d2.2.2.1) ∧ wr .i64 (d2.2.2.2.1 - rowF (List.take (Int.toNat d2.1) (List.drop 0 d2.2.2.2.2.2.2.1)) d2.2.2.1) < (↑(List.length (List.getD d2.2.2.2.2.2.2.2.1 (0 + Int.toNat d2.2.2.1) ([]:List Int))):Int)) (gd (0 + Int.toNat (wr .i64 (d2.2.2.2.1 - rowF (List.take (Int.toNat d2.1) (List.drop 0 d2.2.2.2.2.2.2.1)) d2.2.2.1)) < List.length (List.getD d2.2.2.2.2.2.2.2.1 (0 + Int.toNat d2.2.2.1) ([]:List Int))) (some (Lp.go (((↑(Int.toNat d2.1):Int),(↑(Int.toNat d2.2.1):Int),wr .i64 (d2.2.2.1 + 1),d2.2.2.2.1,d2.2.2.2.2.1,d2.2.2.2.2.2.1,d2.2.2.2.2.2.2.1,List.set d2.2.2.2.2.2.2.2.1 (0 + Int.toNat d2.2.2.1) (List.set (List.getD d2.2.2.2.2.2.2.2.1 (0 + Int.toNat d2.2.2.1) ([]:List Int)) (0 + Int.toNat (wr .i64 (d2.2.2.2.1 - rowF (List.take (Int.toNat d2.1) (List.drop 0 d2.2.2.2.2.2.2.1)) d2.2.2.1))) 0),()) : Int × Int × Int × Int × List Int × List (List Int) × List Int × List (List Int) × Unit)))))))))))))))))))))) else gd (0 + Int.toNat d2.1 ≤ List.length d2.2.2.2.2.2.2.1) (gd (List.length (List.take (Int.toNat d2.1) (List.drop 0 d2.2.2.2.2.2.2.1)) ≤ 1000) (gd (ieq 0 0 = true → ieq 0 0 = true) (gd (ieq 0 0 = true → ieq 0 0 = true) (bif bif ieq 0 0 then ieq 0 0 else false then gd (0 ≤ d2.2.2.1 ∧ d2.2.2.1 < (↑(Int.toNat d2.2.1):Int)) (gd (0 + Int.toNat d2.2.2.1 < List.length d2.2.2.2.2.2.2.2.1) (gd (0 ≤ wr .i64 (d2.2.2.2.1 - rowF (List.take (Int.toNat d2.1) (List.drop 0 d2.2.2.2.2.2.2.1)) d2.2.2.1) ∧ wr .i64 (d2.2.2.2.1 - rowF (List.take (Int.toNat d2.1) (List.drop 0 d2.2.2.2.2.2.2.1)) d2.2.2.1) ≤ (↑(List.length (List.getD d2.2.2.2.2.2.2.2.1 (0 + Int.toNat d2.2.2.1) ([]:List Int))):Int)) (gd (0 ≤ d2.2.2.1 ∧ d2.2.2.1 < (↑(Int.toNat d2.2.1):Int)) (gd (0 + Int.toNat d2.2.2.1 < List.length d2.2.2.2.2.2.2.2.1) (gd (0 + Int.toNat d2.2.2.1 = 0 + Int.toNat d2.2.2.1) (gd (Int.toNat (wr .i64 (d2.2.2.2.1 - rowF (List.take (Int.toNat d2.1) (List.drop 0 d2.2.2.2.2.2.2.1)) d2.2.2.1)) ≤ List.length (List.getD d2.2.2.2.2.2.2.2.1 (0 + Int.toNat d2.2.2.1) ([]:List Int))) (gd (0 + Int.toNat d2.1 ≤ List.length d2.2.2.2.2.2.2.1) (gd (0 + Int.toNat d2.2.1 ≤ List.length (List.set d2.2.2.2.2.2.2.2.1 (0 + Int.toNat d2.2.2.1) (List.take (Int.toNat (wr .i64 (d2.2.2.2.1 - rowF (List.take (Int.toNat d2.1) (List.drop 0 d2.2.2.2.2.2.2.1)) d2.2.2.1))) (List.getD d2.2.2.2.2.2.2.2.1 (0 + Int.toNat d2.2.2.1) ([]:List Int))))) (gd (okRs ((List.take (Int.toNat d2.1) (List.drop 0 d2.2.2.2.2.2.2.1),List.take (Int.toNat d2.2.1) (List.drop 0 (List.set d2.2.2.2.2.2.2.2.1 (0 + Int.toNat d2.2.2.1) (List.take (Int.toNat (wr .i64 (d2.2.2.2.1 - rowF (List.take (Int.toNat d2.1) (List.drop 0 d2.2.2.2.2.2.2.1)) d2.2.2.1))) (List.getD d2.2.2.2.2.2.2.2.1 (0 + Int.toNat d2.2.2.1) ([]:List Int))))),()) : List Int × List (List Int) × Unit)) (some (Lp.out (((((trimF ((List.take (Int.toNat d2.1) (List.drop 0 d2.2.2.2.2.2.2.1),List.take (Int.toNat d2.2.1) (List.drop 0 (List.set d2.2.2.2.2.2.2.2.1 (0 + Int.toNat d2.2.2.1) (List.take (Int.toNat (wr .i64 (d2.2.2.2.1 - rowF (List.take (Int.toNat d2.1) (List.drop 0 d2.2.2.2.2.2.2.1)) d2.2.2.1))) (List.getD d2.2.2.2.2.2.2.2.1 (0 + Int.toNat d2.2.2.1) ([]:List Int))))),()) : List Int × List (List Int) × Unit)).1,(trimF ((List.take (Int.toNat d2.1) (List.drop 0 d2.2.2.2.2.2.2.1),List.take (Int.toNat d2.2.1) (List.drop 0 (List.set d2.2.2.2.2.2.2.2.1 (0 + Int.toNat d2.2.2.1) (List.take (Int.toNat (wr .i64 (d2.2.2.2.1 - rowF (List.take (Int.toNat d2.1) (List.drop 0 d2.2.2.2.2.2.2.1)) d2.2.2.1))) (List.getD d2.2.2.2.2.2.2.2.1 (0 + Int.toNat d2.2.2.1) ([]:List Int))))),()) : List Int × List (List Int) × Unit)).2.1,()) : List Int × List (List Int) × Unit),()) : (List Int × List (List Int) × Unit) × Unit)))))))))))) else gd ((!ieq 0 0) = true → (!ieq 0 0) = true) (gd ((!ieq 0 0 && (!ieq 0 0 && !ieq 0 0)) = true → (!ieq 0 0 && (!ieq 0 0 && !ieq 0 0)) = true ∧ (!ieq 0 0 && (!ieq 0 0 && !ieq 0 0)) = true) (gd ((!ieq 0 0) = true → (!ieq 0 0) = true ∧ (!ieq 0 0) = true ∧ ((!ieq 0 0) = true → (!ieq 0 0 && (!ieq 0 0 && !ieq 0 0)) = true)) (gd (ieq 0 0 = false → (!ieq 0 0) = true) (bif bif ieq 0 0 then true else bif !ieq 0 0 then ilt 0 0 else false then gd (0 ≤ d2.2.2.1 ∧ d2.2.2.1 < (↑(Int.toNat d2.2.1):Int)) (gd (0 + Int.toNat d2.2.2.1 < List.length d2.2.2.2.2.2.2.2.1) (gd (0 ≤ wr .i64 (d2.2.2.2.1 - rowF (List.take (Int.toNat d2.1) (List.drop 0 d2.2.2.2.2.2.2.1)) d2.2.2.1) ∧ wr .i64 (d2.2.2.2.1 - rowF (List.take (Int.toNat d2.1) (List.drop 0 d2.2.2.2.2.2.2.1)) d2.2.2.1) < (↑(List.length (List.getD d2.2.2.2.2.2.2.2.1 (0 + Int.toNat d2.2.2.1) ([]:List Int))):Int)) (gd (0 + Int.toNat (wr .i64 (d2.2.2.2.1 - rowF (List.take (Int.toNat d2.1) (List.drop 0 d2.2.2.2.2.2.2.1)) d2.2.2.1)) < List.length (List.getD d2.2.2.2.2.2.2.2.1 (0 + Int.toNat d2.2.2.1) ([]:List Int))) (some (Lp.go (((↑(Int.toNat d2.1):Int),(↑(Int.toNat d2.2.1):Int),d2.2.2.1,wr .i64 (d2.2.2.2.1 + 1),d2.2.2.2.2.1,d2.2.2.2.2.2.1,d2.2.2.2.2.2.2.1,List.set d2.2.2.2.2.2.2.2.1 (0 + Int.toNat d2.2.2.1) (List.set (List.getD d2.2.2.2.2.2.2.2.1 (0 + Int.toNat d2.2.2.1) ([]:List Int)) (0 + Int.toNat (wr .i64 (d2.2.2.2.1 - rowF (List.take (Int.toNat d2.1) (List.drop 0 d2.2.2.2.2.2.2.1)) d2.2.2.1))) 0),()) : Int × Int × Int × Int × List Int × List (List Int) × List Int × List (List Int) × Unit)))))) else gd (0 ≤ d2.2.2.1 ∧ d2.2.2.1 < (↑(Int.toNat d2.2.1):Int)) (gd (0 + Int.toNat d2.2.2.1 < List.length d2.2.2.2.2.2.2.2.1) (gd (0 ≤ wr .i64 (d2.2.2.2.1 - rowF (List.take (Int.toNat d2.1) (List.drop 0 d2.2.2.2.2.2.2.1)) d2.2.2.1) ∧ wr .i64 (d2.2.2.2.1 - rowF (List.take (Int.toNat d2.1) (List.drop 0 d2.2.2.2.2.2.2.1)) d2.2.2.1) < (↑(List.length (List.getD d2.2.2.2.2.2.2.2.1 (0 + Int.toNat d2.2.2.1) ([]:List Int))):Int)) (gd (0 + Int.toNat (wr .i64 (d2.2.2.2.1 - rowF (List.take (Int.toNat d2.1) (List.drop 0 d2.2.2.2.2.2.2.1)) d2.2.2.1)) < List.length (List.getD d2.2.2.2.2.2.2.2.1 (0 + Int.toNat d2.2.2.1) ([]:List Int))) (some (Lp.go (((↑(Int.toNat d2.1):Int),(↑(Int.toNat d2.2.1):Int),wr .i64 (d2.2.2.1 + 1),d2.2.2.2.1,d2.2.2.2.2.1,d2.2.2.2.2.2.1,d2.2.2.2.2.2.2.1,List.set d2.2.2.2.2.2.2.2.1 (0 + Int.toNat d2.2.2.1) (List.set (List.getD d2.2.2.2.2.2.2.2.1 (0 + Int.toNat d2.2.2.1) ([]:List Int)) (0 + Int.toNat (wr .i64 (d2.2.2.2.1 - rowF (List.take (Int.toNat d2.1) (List.drop 0 d2.2.2.2.2.2.2.1)) d2.2.2.1))) 0),()) : Int × Int × Int × Int × List Int × List (List Int) × List Int × List (List Int) × Unit))))))))))))))))))
noncomputable def g50 (x0 : List Int × List (List Int) × Unit) (x1:Int) : Option ((List Int × List (List Int) × Unit) × Unit):=gd ((0:Nat) ≤ 0) (gd ((0 + List.length x0.1) * (8:Nat) ≤ 1099511627776) (gd (List.length x0.2.1 ≤ 1000 ∧ ∀ (x2:List Int),List.Mem x2 x0.2.1 → List.length x2 ≤ 1000) (gd (0 ≤ x1 ∧ x1 < (↑(0 + List.length x0.1):Int)) (gd (0 + Int.toNat x1 < List.length x0.1) (gd (0 ≤ x1 ∧ x1 < (↑(0 + List.length x0.1):Int)) (gd (0 + Int.toNat x1 < List.length x0.1) (gd (0 ≤ x1 ∧ x1 < (↑(0 + List.length x0.1):Int)) (gd (0 + Int.toNat x1 < List.length x0.1) (gd (0 ≤ x1 ∧ x1 < (↑(List.length x0.2.1):Int)) (gd (0 + Int.toNat x1 < List.length x0.2.1) (gd (0 + List.length (List.getD x0.2.1 (0 + Int.toNat x1) ([]:List Int)) ≤ List.length (List.getD x0.2.1 (0 + Int.toNat x1) ([]:List Int))) (gd ((1:Nat) ≤ 1) (gd ((1 + List.length (List.take (List.length (List.getD x0.2.1 (0 + Int.toNat x1) ([]:List Int))) (List.drop 0 (List.getD x0.2.1 (0 + Int.toNat x1) ([]:List Int))))) * (8:Nat) ≤ 1099511627776) (gd (0 ≤ x1 ∧ x1 < (↑(List.length x0.2.1):Int)) (gd (0 + Int.toNat x1 < List.length x0.2.1) (gd (1 + List.length (List.take (List.length (List.getD x0.2.1 (0 + Int.toNat x1) ([]:List Int))) (List.drop 0 (List.getD x0.2.1 (0 + Int.toNat x1) ([]:List Int)))) = (List.length (List.take (List.length (List.getD x0.2.1 (0 + Int.toNat x1) ([]:List Int))) (List.drop 0 (List.getD x0.2.1 (0 + Int.toNat x1) ([]:List Int))))) + 1) (whileO g50_l0 (((↑(0 + List.length x0.1):Int),(↑(List.length x0.2.1):Int),x1,wr .i64 (List.getD x0.1 (0 + Int.toNat x1) (0:Int) - 1),([]:List Int),([]:List (List Int)),List.set x0.1 (0 + Int.toNat x1) (wr .i64 (List.getD x0.1 (0 + Int.toNat x1) (0:Int) - 1)),List.set x0.2.1 (0 + Int.toNat x1) (0 :: List.take (List.length (List.getD x0.2.1 (0 + Int.toNat x1) ([]:List Int))) (List.drop 0 (List.getD x0.2.1 (0 + Int.toNat x1) ([]:List Int)))),()) : Int × Int × Int × Int × List Int × List (List Int) × List Int × List (List Int) × Unit))))))))))))))))))
noncomputable def g50_sh : List LSh:=LSh.mk (((4,TV.ref (0) 1 0 0) : Nat × TV) :: ((5,TV.sl (1) (1) (0)) : Nat × TV) :: ((6,TV.sl (2) (1) (0)) : Nat × TV) :: ((7,TV.v (Ty.int IntKind.i64)) : Nat × TV) :: ((8,TV.v (Ty.int IntKind.i64)) : Nat × TV) :: ([] : List (Nat × TV))) (TB.cells (TV.v (Ty.slice (Ty.int IntKind.i64)) :: TV.v (Ty.slice (Ty.slice (Ty.int IntKind.i64))) :: ([] : List TV)) :: TB.arr (Ty.int IntKind.i64) true :: TB.nest (Ty.int IntKind.i64) :: ([] : List TB)) :: ([] : List LSh)
noncomputable def strG : Nat → SkD → SkD
 | 0,s=>s
 | n + 1,s=>if s.1.length = 0 then s else strG n (sldR s ((s.1.length:Int) - 1))
noncomputable def con48 : Con:=mkC 48 [.d SkT] [LLI] (fun (s : SkD)=>[skOkB s]) (fun (s : SkD)=>((strG 40 (trimF s)).2.1,()))
noncomputable def g48 (x0 : List Int × List (List Int) × Unit) : Option (List (List Int) × Unit):=gd (okRs ((x0.1,x0.2.1,()) : List Int × List (List Int) × Unit)) (whileO (fun (d1 : List Int × List (List Int) × Unit)=>bif ilt 0 (↑(List.length d1.1):Int) then gd (skOkB ((d1.1,d1.2.1,()) : List Int × List (List Int) × Unit) ∧ crnB d1.1 (wr .i64 ((↑(List.length d1.1):Int) - 1)) = true) (some (Lp.go (((sldR ((d1.1,d1.2.1,()) : List Int × List (List Int) × Unit) (wr .i64 ((↑(List.length d1.1):Int) - 1))).1,(sldR ((d1.1,d1.2.1,()) : List Int × List (List Int) × Unit) (wr .i64 ((↑(List.length d1.1):Int) - 1))).2.1,()) : List Int × List (List Int) × Unit))) else some (Lp.out ((d1.2.1,()) : List (List Int) × Unit))) (((trimF ((x0.1,x0.2.1,()) : List Int × List (List Int) × Unit)).1,(trimF ((x0.1,x0.2.1,()) : List Int × List (List Int) × Unit)).2.1,()) : List Int × List (List Int) × Unit))
noncomputable def g48_sh : List LSh:=LSh.mk (((1,TV.ref (0) 1 0 0) : Nat × TV) :: ([] : List (Nat × TV))) (TB.cells (TV.v (Ty.slice (Ty.int IntKind.i64)) :: TV.v (Ty.slice (Ty.slice (Ty.int IntKind.i64))) :: ([] : List TV)) :: ([] : List TB)) :: ([] : List LSh)
noncomputable def sldB (xs:List Int) (len:Int) (inner:List Int) (row:Int) : List Int × Int × List Int:=(slF (30 - (row + (inner.getD row.toNat 0 - 1))).toNat xs row (inner.getD row.toNat 0 - 1),lenP row len inner,inner.set row.toNat (inner.getD row.toNat 0 - 1))
noncomputable def skwB (b : List Int × Int × List Int) : SkD:=(b.2.2.take b.2.1.toNat,skRows b.1 (b.2.2.take b.2.1.toNat) 21,())
noncomputable def slX (s : SkD) (row:Int) : SkD × Int × Unit:=if (readF s).isSome = true ∧ crnB s.1 row = true then (skwB (sldB ((readF s).getD []) (s.1.length:Int) s.1 row),0,()) else (([],[],()),2,())
noncomputable def con43a : Con:=mkC 43 [.d SkT,.d I64] [SkT,I64] (fun (s : SkD) (row:Int)=>[okRs s ∧ (readF s).isSome = true]) (fun (s : SkD) (row:Int)=>slX s row)
noncomputable def g43a (x0 : List Int × List (List Int) × Unit) (x1:Int) : Option ((List Int × List (List Int) × Unit) × Int × Unit):=gd (okRs ((x0.1,x0.2.1,()) : List Int × List (List Int) × Unit) ∧ Option.isSome (readF ((x0.1,x0.2.1,()) : List Int × List (List Int) × Unit)) = true) (gd (true = true → true = true ∧ true = true) (gd (true = true → inOk (↑(List.length x0.1):Int) x0.1) (gd (true = true → true = true) (gd (false = false → true = true) (bif !crnP x1 (↑(List.length x0.1):Int) x0.1 then some ((((([]:List Int),([]:List (List Int)),()) : List Int × List (List Int) × Unit),2,()) : (List Int × List (List Int) × Unit) × Int × Unit) else gd (bdB (Option.getD (readF ((x0.1,x0.2.1,()) : List Int × List (List Int) × Unit)) ([]:List Int)) ∧ inOk (↑(List.length x0.1):Int) x0.1 ∧ 0 ≤ x1 ∧ x1 < (↑(List.length x0.1):Int) ∧ 1 ≤ List.getD x0.1 (Int.toNat x1) 0) (gd (bdB (slF (Int.toNat (30 - (x1 + (List.getD x0.1 (Int.toNat x1) (0:Int) - 1)))) (Option.getD (readF ((x0.1,x0.2.1,()) : List Int × List (List Int) × Unit)) ([]:List Int)) x1 (List.getD x0.1 (Int.toNat x1) (0:Int) - 1)) ∧ inOk (↑(Int.toNat (lenP x1 (↑(List.length x0.1):Int) x0.1)):Int) (List.set x0.1 (Int.toNat x1) (List.getD x0.1 (Int.toNat x1) (0:Int) - 1))) (some ((((List.take (Int.toNat (lenP x1 (↑(List.length x0.1):Int) x0.1)) (List.set x0.1 (Int.toNat x1) (List.getD x0.1 (Int.toNat x1) (0:Int) - 1)),skRows (slF (Int.toNat (30 - (x1 + (List.getD x0.1 (Int.toNat x1) (0:Int) - 1)))) (Option.getD (readF ((x0.1,x0.2.1,()) : List Int × List (List Int) × Unit)) ([]:List Int)) x1 (List.getD x0.1 (Int.toNat x1) (0:Int) - 1)) (List.take (Int.toNat (lenP x1 (↑(List.length x0.1):Int) x0.1)) (List.set x0.1 (Int.toNat x1) (List.getD x0.1 (Int.toNat x1) (0:Int) - 1))) 21,()) : List Int × List (List Int) × Unit),0,()) : (List Int × List (List Int) × Unit) × Int × Unit))))))))
noncomputable def g43a_sh : List LSh:=([] : List LSh)
noncomputable def con43b : Con:=mkC 43 [.d SkT,.d I64] [SkT,I64] (fun (s : SkD) (row:Int)=>[okRs s ∧ (readF s).isSome = false]) (fun (s : SkD) (row:Int)=>slX s row)
noncomputable def g43b_sh : List LSh:=([] : List LSh)
noncomputable def strB : Nat → List Int × Int × List Int → List Int × Int × List Int
 | 0,b=>b
 | n + 1,b=>if b.2.1 ≤ 0 then b else strB n (sldB b.1 b.2.1 b.2.2 (b.2.1 - 1))
noncomputable def stX (s : SkD) : List (List Int) × Int × Unit:=if (readF s).isSome = true then ((skwB (strB 40 ((readF s).getD [],(s.1.length:Int),s.1))).2.1,0,()) else ([],2,())
noncomputable def con45a : Con:=mkC 45 [.d SkT] [LLI,I64] (fun (s : SkD)=>[okRs s ∧ (readF s).isSome = true]) (fun (s : SkD)=>stX s)
noncomputable def g45a (x0 : List Int × List (List Int) × Unit) : Option (List (List Int) × Int × Unit):=gd (okRs ((x0.1,x0.2.1,()) : List Int × List (List Int) × Unit) ∧ Option.isSome (readF ((x0.1,x0.2.1,()) : List Int × List (List Int) × Unit)) = true) (whileO (fun (d1 : List Int × Int × List Int × Unit)=>bif ilt 0 (↑(Int.toNat d1.2.1):Int) then gd (bdB d1.1 ∧ inOk (↑(Int.toNat d1.2.1):Int) d1.2.2.1 ∧ 0 ≤ wr .i64 ((↑(Int.toNat d1.2.1):Int) - 1) ∧ wr .i64 ((↑(Int.toNat d1.2.1):Int) - 1) < (↑(Int.toNat d1.2.1):Int) ∧ 1 ≤ List.getD d1.2.2.1 (Int.toNat (wr .i64 ((↑(Int.toNat d1.2.1):Int) - 1))) 0) (some (Lp.go ((slF (Int.toNat (30 - (wr .i64 ((↑(Int.toNat d1.2.1):Int) - 1) + (List.getD d1.2.2.1 (Int.toNat (wr .i64 ((↑(Int.toNat d1.2.1):Int) - 1))) (0:Int) - 1)))) d1.1 (wr .i64 ((↑(Int.toNat d1.2.1):Int) - 1)) (List.getD d1.2.2.1 (Int.toNat (wr .i64 ((↑(Int.toNat d1.2.1):Int) - 1))) (0:Int) - 1),(↑(Int.toNat (lenP (wr .i64 ((↑(Int.toNat d1.2.1):Int) - 1)) (↑(Int.toNat d1.2.1):Int) d1.2.2.1)):Int),List.set d1.2.2.1 (Int.toNat (wr .i64 ((↑(Int.toNat d1.2.1):Int) - 1))) (List.getD d1.2.2.1 (Int.toNat (wr .i64 ((↑(Int.toNat d1.2.1):Int) - 1))) (0:Int) - 1),()) : List Int × Int × List Int × Unit))) else gd (bdB d1.1 ∧ inOk (↑(Int.toNat d1.2.1):Int) d1.2.2.1) (some (Lp.out ((skRows d1.1 (List.take (Int.toNat d1.2.1) d1.2.2.1) 21,0,()) : List (List Int) × Int × Unit)))) ((Option.getD (readF ((x0.1,x0.2.1,()) : List Int × List (List Int) × Unit)) ([]:List Int),(↑(List.length x0.1):Int),x0.1,()) : List Int × Int × List Int × Unit))
noncomputable def g45a_sh : List LSh:=LSh.mk (((4,TV.ref (0) 1 0 0) : Nat × TV) :: ([] : List (Nat × TV))) (TB.mix (TV.sl (1) (1) (0) :: ([] : List TV)) (Ty.int IntKind.i64) :: TB.arr (Ty.int IntKind.i64) true :: ([] : List TB)) :: ([] : List LSh)
noncomputable def con45b : Con:=mkC 45 [.d SkT] [LLI,I64] (fun (s : SkD)=>[okRs s ∧ (readF s).isSome = false]) (fun (s : SkD)=>stX s)
noncomputable def con43 : Con:=mkC 43 [.d SkT,.d I64] [SkT,I64] (fun (s : SkD) (row:Int)=>[okRs s]) (fun (s : SkD) (row:Int)=>slX s row)
noncomputable def con45 : Con:=mkC 45 [.d SkT] [LLI,I64] (fun (s : SkD)=>[okRs s]) (fun (s : SkD)=>stX s)
noncomputable def con10 : Con:=mkC 10 [.d SkT,.d I64] [.bool] (fun (s : SkD) (row:Int)=>[small s.1 ∧ small s.2.1]) (fun (s : SkD) (row:Int)=>(true,()))
noncomputable def g10_c0 (x0 : List Int × List (List Int) × Unit) (x1:Int) : Int:=(slX (cutF (((cutF ((x0.1,x0.2.1,()) : List Int × List (List Int) × Unit)).1,(cutF ((x0.1,x0.2.1,()) : List Int × List (List Int) × Unit)).2.1,()) : List Int × List (List Int) × Unit)) x1).2.1
noncomputable def g10_c1 (x0 : List Int × List (List Int) × Unit) : Int:=(stX (cutF (((cutF ((x0.1,x0.2.1,()) : List Int × List (List Int) × Unit)).1,(cutF ((x0.1,x0.2.1,()) : List Int × List (List Int) × Unit)).2.1,()) : List Int × List (List Int) × Unit))).2.1
noncomputable def g10_c2 (x0 : List Int × List (List Int) × Unit) : Bool:=skB (((cutF ((x0.1,x0.2.1,()) : List Int × List (List Int) × Unit)).1,(cutF ((x0.1,x0.2.1,()) : List Int × List (List Int) × Unit)).2.1,()) : List Int × List (List Int) × Unit)
noncomputable def g10_c3 (x0 : List Int × List (List Int) × Unit) (x1:Int) : Bool:=noneB (((slX (cutF (((cutF ((x0.1,x0.2.1,()) : List Int × List (List Int) × Unit)).1,(cutF ((x0.1,x0.2.1,()) : List Int × List (List Int) × Unit)).2.1,()) : List Int × List (List Int) × Unit)) x1).1.1,(slX (cutF (((cutF ((x0.1,x0.2.1,()) : List Int × List (List Int) × Unit)).1,(cutF ((x0.1,x0.2.1,()) : List Int × List (List Int) × Unit)).2.1,()) : List Int × List (List Int) × Unit)) x1).1.2.1,()) : List Int × List (List Int) × Unit)
noncomputable def g10_c4 (x0 : List Int × List (List Int) × Unit) : Int:=(↑(List.length (stX (cutF (((cutF ((x0.1,x0.2.1,()) : List Int × List (List Int) × Unit)).1,(cutF ((x0.1,x0.2.1,()) : List Int × List (List Int) × Unit)).2.1,()) : List Int × List (List Int) × Unit))).1):Int)
noncomputable def g10_c5 (x0 : List Int × List (List Int) × Unit) : Bool:=eqL2 (stX (cutF (((cutF ((x0.1,x0.2.1,()) : List Int × List (List Int) × Unit)).1,(cutF ((x0.1,x0.2.1,()) : List Int × List (List Int) × Unit)).2.1,()) : List Int × List (List Int) × Unit))).1 (strG 40 (trimF (((cutF ((x0.1,x0.2.1,()) : List Int × List (List Int) × Unit)).1,(cutF ((x0.1,x0.2.1,()) : List Int × List (List Int) × Unit)).2.1,()) : List Int × List (List Int) × Unit))).2.1
noncomputable def g10_c6 (x0 : List Int × List (List Int) × Unit) (x1:Int) : Bool:=eqL1 (slX (cutF (((cutF ((x0.1,x0.2.1,()) : List Int × List (List Int) × Unit)).1,(cutF ((x0.1,x0.2.1,()) : List Int × List (List Int) × Unit)).2.1,()) : List Int × List (List Int) × Unit)) x1).1.1 (sldR (((cutF ((x0.1,x0.2.1,()) : List Int × List (List Int) × Unit)).1,(cutF ((x0.1,x0.2.1,()) : List Int × List (List Int) × Unit)).2.1,()) : List Int × List (List Int) × Unit) x1).1
noncomputable def g10_c7 (x0 : List Int × List (List Int) × Unit) (x1:Int) : Bool:=eqL2 (slX (cutF (((cutF ((x0.1,x0.2.1,()) : List Int × List (List Int) × Unit)).1,(cutF ((x0.1,x0.2.1,()) : List Int × List (List Int) × Unit)).2.1,()) : List Int × List (List Int) × Unit)) x1).1.2.1 (sldR (((cutF ((x0.1,x0.2.1,()) : List Int × List (List Int) × Unit)).1,(cutF ((x0.1,x0.2.1,()) : List Int × List (List Int) × Unit)).2.1,()) : List Int × List (List Int) × Unit) x1).2.1
noncomputable def g10 (x0 : List Int × List (List Int) × Unit) (x1:Int) : Option (Bool × Unit):=gd (small x0.1 ∧ small x0.2.1) (gd (small (cutF ((x0.1,x0.2.1,()) : List Int × List (List Int) × Unit)).1 ∧ small (cutF ((x0.1,x0.2.1,()) : List Int × List (List Int) × Unit)).2.1) (gd (okRs (cutF (((cutF ((x0.1,x0.2.1,()) : List Int × List (List Int) × Unit)).1,(cutF ((x0.1,x0.2.1,()) : List Int × List (List Int) × Unit)).2.1,()) : List Int × List (List Int) × Unit))) (gd (small (cutF ((x0.1,x0.2.1,()) : List Int × List (List Int) × Unit)).1 ∧ small (cutF ((x0.1,x0.2.1,()) : List Int × List (List Int) × Unit)).2.1) (gd (okRs (cutF (((cutF ((x0.1,x0.2.1,()) : List Int × List (List Int) × Unit)).1,(cutF ((x0.1,x0.2.1,()) : List Int × List (List Int) × Unit)).2.1,()) : List Int × List (List Int) × Unit))) (gd (small (cutF ((x0.1,x0.2.1,()) : List Int × List (List Int) × Unit)).1 ∧ okL2 (cutF ((x0.1,x0.2.1,()) : List Int × List (List Int) × Unit)).2.1) (bif !g10_c2 x0 then gd (List.length (slX (cutF (((cutF ((x0.1,x0.2.1,()) : List Int × List (List Int) × Unit)).1,(cutF ((x0.1,x0.2.1,()) : List Int × List (List Int) × Unit)).2.1,()) : List Int × List (List Int) × Unit)) x1).1.1 ≤ 1000 ∧ List.length (slX (cutF (((cutF ((x0.1,x0.2.1,()) : List Int × List (List Int) × Unit)).1,(cutF ((x0.1,x0.2.1,()) : List Int × List (List Int) × Unit)).2.1,()) : List Int × List (List Int) × Unit)) x1).1.2.1 ≤ 1000) (gd (g10_c3 x0 x1 = true → g10_c3 x0 x1 = true) (gd (g10_c3 x0 x1 = true → g10_c3 x0 x1 = true) (gd (g10_c3 x0 x1 = true → g10_c3 x0 x1 = true) (gd ((bif g10_c3 x0 x1 then ieq (g10_c4 x0) 0 else false) = true → (bif g10_c3 x0 x1 then ieq (g10_c4 x0) 0 else false) = true) (gd ((bif g10_c3 x0 x1 then ieq (g10_c4 x0) 0 else false) = true → (bif g10_c3 x0 x1 then ieq (g10_c4 x0) 0 else false) = true) (gd ((bif bif g10_c3 x0 x1 then ieq (g10_c4 x0) 0 else false then ieq (g10_c0 x0 x1) 2 else false) = true → (bif bif g10_c3 x0 x1 then ieq (g10_c4 x0) 0 else false then ieq (g10_c0 x0 x1) 2 else false) = true) (gd ((bif bif g10_c3 x0 x1 then ieq (g10_c4 x0) 0 else false then ieq (g10_c0 x0 x1) 2 else false) = true → (bif bif g10_c3 x0 x1 then ieq (g10_c4 x0) 0 else false then ieq (g10_c0 x0 x1) 2 else false) = true) (gd ((bif bif bif g10_c3 x0 x1 then ieq (g10_c4 x0) 0 else false then ieq (g10_c0 x0 x1) 2 else false then ieq (g10_c1 x0) 2 else false) = true → (bif bif bif g10_c3 x0 x1 then ieq (g10_c4 x0) 0 else false then ieq (g10_c0 x0 x1) 2 else false then ieq (g10_c1 x0) 2 else false) = true) (some ((bif bif bif bif g10_c3 x0 x1 then ieq (g10_c4 x0) 0 else false then ieq (g10_c0 x0 x1) 2 else false then ieq (g10_c1 x0) 2 else false then true else false,()) : Bool × Unit)))))))))) else gd (skOkB (((cutF ((x0.1,x0.2.1,()) : List Int × List (List Int) × Unit)).1,(cutF ((x0.1,x0.2.1,()) : List Int × List (List Int) × Unit)).2.1,()) : List Int × List (List Int) × Unit)) (gd (small (stX (cutF (((cutF ((x0.1,x0.2.1,()) : List Int × List (List Int) × Unit)).1,(cutF ((x0.1,x0.2.1,()) : List Int × List (List Int) × Unit)).2.1,()) : List Int × List (List Int) × Unit))).1 ∧ ∀ (x2:List Int),List.Mem x2 (stX (cutF (((cutF ((x0.1,x0.2.1,()) : List Int × List (List Int) × Unit)).1,(cutF ((x0.1,x0.2.1,()) : List Int × List (List Int) × Unit)).2.1,()) : List Int × List (List Int) × Unit))).1 → small x2) (gd ((!!g10_c5 x0) = true → (!!g10_c5 x0) = true) (gd ((!g10_c5 x0) = false → (!!g10_c5 x0) = true) (gd ((!bif !g10_c5 x0 then true else !ieq (g10_c1 x0) 0) = true → (!bif !g10_c5 x0 then true else !ieq (g10_c1 x0) 0) = true) (gd ((bif !g10_c5 x0 then true else !ieq (g10_c1 x0) 0) = false → (!bif !g10_c5 x0 then true else !ieq (g10_c1 x0) 0) = true) (bif bif bif !g10_c5 x0 then true else !ieq (g10_c1 x0) 0 then true else false then some ((false,()) : Bool × Unit) else gd (List.length (cutF ((x0.1,x0.2.1,()) : List Int × List (List Int) × Unit)).1 ≤ 1000) (bif !crnB (cutF ((x0.1,x0.2.1,()) : List Int × List (List Int) × Unit)).1 x1 then gd (List.length (slX (cutF (((cutF ((x0.1,x0.2.1,()) : List Int × List (List Int) × Unit)).1,(cutF ((x0.1,x0.2.1,()) : List Int × List (List Int) × Unit)).2.1,()) : List Int × List (List Int) × Unit)) x1).1.1 ≤ 1000 ∧ List.length (slX (cutF (((cutF ((x0.1,x0.2.1,()) : List Int × List (List Int) × Unit)).1,(cutF ((x0.1,x0.2.1,()) : List Int × List (List Int) × Unit)).2.1,()) : List Int × List (List Int) × Unit)) x1).1.2.1 ≤ 1000) (gd (g10_c3 x0 x1 = true → g10_c3 x0 x1 = true) (gd (g10_c3 x0 x1 = true → g10_c3 x0 x1 = true) (some ((bif g10_c3 x0 x1 then ieq (g10_c0 x0 x1) 2 else false,()) : Bool × Unit)))) else gd (skOkB (((cutF ((x0.1,x0.2.1,()) : List Int × List (List Int) × Unit)).1,(cutF ((x0.1,x0.2.1,()) : List Int × List (List Int) × Unit)).2.1,()) : List Int × List (List Int) × Unit) ∧ crnB (cutF ((x0.1,x0.2.1,()) : List Int × List (List Int) × Unit)).1 x1 = true) (gd (small (slX (cutF (((cutF ((x0.1,x0.2.1,()) : List Int × List (List Int) × Unit)).1,(cutF ((x0.1,x0.2.1,()) : List Int × List (List Int) × Unit)).2.1,()) : List Int × List (List Int) × Unit)) x1).1.1) (gd (g10_c6 x0 x1 = true → g10_c6 x0 x1 = true) (gd (g10_c6 x0 x1 = true → g10_c6 x0 x1 = true) (gd (g10_c6 x0 x1 = true → g10_c6 x0 x1 = true ∧ g10_c6 x0 x1 = true ∧ small (slX (cutF (((cutF ((x0.1,x0.2.1,()) : List Int × List (List Int) × Unit)).1,(cutF ((x0.1,x0.2.1,()) : List Int × List (List Int) × Unit)).2.1,()) : List Int × List (List Int) × Unit)) x1).1.2.1 ∧ ∀ (x2:List Int),List.Mem x2 (slX (cutF (((cutF ((x0.1,x0.2.1,()) : List Int × List (List Int) × Unit)).1,(cutF ((x0.1,x0.2.1,()) : List Int × List (List Int) × Unit)).2.1,()) : List Int × List (List Int) × Unit)) x1).1.2.1 → small x2) (gd (g10_c6 x0 x1 = true → g10_c6 x0 x1 = true) (gd ((bif g10_c6 x0 x1 then g10_c7 x0 x1 else false) = true → (bif g10_c6 x0 x1 then g10_c7 x0 x1 else false) = true) (gd ((bif g10_c6 x0 x1 then g10_c7 x0 x1 else false) = true → (bif g10_c6 x0 x1 then g10_c7 x0 x1 else false) = true) (some ((bif bif g10_c6 x0 x1 then g10_c7 x0 x1 else false then ieq (g10_c0 x0 x1) 0 else false,()) : Bool × Unit))))))))))))))))))))))
noncomputable def g10_sh : List LSh:=([] : List LSh)
end Go.Schur
set_option maxRecDepth 100000
namespace Go.Schur
open Go Go.Ab Go.Proofs
theorem goal42 : con42.goal Try.prog (spOf [con20,con32]) g42_sh [] lm30:=by
 have e : (∀ (s : SkD),(small s.1 ∧ small s.2.1) → g42 s = some (cutF s,())) = con42.goal Try.prog (spOf [con20,con32]) g42_sh [] lm30:=by kernel_rfl
 rw [← e]
 rintro s ⟨h1,h2⟩
 unfold g42 cutF
 rw [gd_pos h2]
theorem ok42 : con42.Ok Try.prog:=Con.of_goal mixed (okC ok20 (okC ok32 okN)) con42 goal42
theorem goal44 : con44.goal Try.prog (spOf [con20,con32]) g44_sh [] lm30:=by
 have e : (∀ (s : SkD),(small s.1 ∧ small s.2.1) → g44 s = some (cutF s,())) = con44.goal Try.prog (spOf [con20,con32]) g44_sh [] lm30:=by kernel_rfl
 rw [← e]
 rintro s ⟨h1,h2⟩
 unfold g44 cutF
 rw [gd_pos h2]
theorem ok44 : con44.Ok Try.prog:=Con.of_goal mixed (okC ok20 (okC ok32 okN)) con44 goal44
theorem goal47 : con47.goal Try.prog (spOf []) g47_sh [] lm30:=by
 have e : (∀ (s : SkD),(s.1.length ≤ 1000 ∧ s.2.1.length ≤ 1000) → g47 s = some (noneB s,())) = con47.goal Try.prog (spOf []) g47_sh [] lm30:=by kernel_rfl
 rw [← e]
 rintro s ⟨h1,h2⟩
 unfold g47 noneB
 rw [wr_id (by omega)]
 have : ieq ((s.1.length:Int) + (s.2.1.length:Int)) 0 = decide (s.1.length + s.2.1.length = 0):=by rw [Bool.eq_iff_iff,ieq_iff,decide_eq_true_eq];omega
 rw [this]
theorem ok47 : con47.Ok Try.prog:=Con.of_goal mixed okN con47 goal47
theorem goal49 : con49.goal Try.prog (spOf [con93p]) g49_sh [] lm30:=by
 have e : (∀ (l:List Int) (row:Int),l.length ≤ 1000 → g49 l row = some (crnB l row,())) = con49.goal Try.prog (spOf [con93p]) g49_sh [] lm30:=by kernel_rfl
 rw [← e]
 intro l row hl
 unfold g49 crnB
 cases ha : ile 0 row with
 | false =>
  rw [ile_false] at ha
  have : ¬ (0 ≤ row ∧ row < (l.length:Int) ∧ rowF l (row + 1) < rowF l row):=by omega
  simp [gd_true,this]
 | true =>
  rw [ile_iff] at ha
  cases hb : ilt row (l.length:Int) with
  | false =>
   rw [ilt_false] at hb
   have : ¬ (0 ≤ row ∧ row < (l.length:Int) ∧ rowF l (row + 1) < rowF l row):=by omega
   simp [gd_true,this]
  | true =>
   rw [ilt_iff] at hb
   have e1 : rowF l row = l.getD row.toNat 0:=by unfold rowF;rw [if_neg (by omega)]
   have w : wr .i64 (row + 1) = row + 1:=wr_id (by omega)
   rw [w,e1]
   have q : ilt (rowF l (row + 1)) (l.getD row.toNat 0) = decide (rowF l (row + 1) < l.getD row.toNat 0):=by rw [Bool.eq_iff_iff,ilt_iff];simp
   simp only [cond_true,q,gd_true,true_implies,true_and,hl,ha,hb]
theorem ok49 : con49.Ok Try.prog:=Con.of_goal mixed (okC ok93p okN) con49 goal49
theorem Con.or {P : Program} {f : FuncId} {ats : List AT} {rs : List Ty} {pre1 pre2 pre : List AV → Option (List Prop)} {F : List AV → Option (Dens rs)} (h1 : Con.Ok P ⟨f,ats,rs,pre1,F⟩) (h2 : Con.Ok P ⟨f,ats,rs,pre2,F⟩)
  (h : ∀ env p,EnvOk (tsA ats) env → pre env = some p → Ab.allP p → (∃ q,pre1 env = some q ∧ Ab.allP q) ∨ (∃ q,pre2 env = some q ∧ Ab.allP q)) : Con.Ok P ⟨f,ats,rs,pre,F⟩ :=
 ⟨h1.1,fun Γ w env p r vs a b c d e g hf=>(h env p c d g).elim (fun ⟨q,q1,q2⟩=>h1.2 Γ w env q r vs a b c q1 e q2 hf) (fun ⟨q,q1,q2⟩=>h2.2 Γ w env q r vs a b c q1 e q2 hf)⟩
noncomputable def w43b (x0 : SkD) (x1:Int) : Option (SkD × Int × Unit):=gd (okRs ((x0.1,x0.2.1,()) : SkD)) (gd ((!!Option.isSome (readF ((x0.1,x0.2.1,()) : SkD))) = true → (!!Option.isSome (readF ((x0.1,x0.2.1,()) : SkD))) = true ∧ (!!Option.isSome (readF ((x0.1,x0.2.1,()) : SkD))) = true ∧ False) (gd ((!!Option.isSome (readF ((x0.1,x0.2.1,()) : SkD))) = true → (!!Option.isSome (readF ((x0.1,x0.2.1,()) : SkD))) = true ∧ False) (gd ((!Option.isSome (readF ((x0.1,x0.2.1,()) : SkD))) = true) (bif true then (some ((((([]:List Int),([]:List (List Int)),()) : SkD),(2:Int),()) : SkD × Int × Unit)) else none))))
theorem goal43b : con43b.goal Try.prog (spS [con80u,con87,con88,con89] []) g43b_sh [] lm30:=by
 have e : (∀ (s : SkD) (row:Int),(okRs s ∧ (readF s).isSome = false) → w43b s row = some (slX s row)) = con43b.goal Try.prog (spS [con80u,con87,con88,con89] []) g43b_sh [] lm30:=by kernel_rfl
 rw [← e]
 rintro s row ⟨h1,h2⟩
 have es : ((s.1,s.2.1,()) : SkD) = s:=rfl
 unfold w43b slX
 rw [es,gd_pos h1,h2]
 simp [gd_true]
theorem ok43b : con43b.Ok Try.prog:=Con.of_goalS mixed okN (okS ok80u (okS ok87 (okS ok88 (okS ok89 okS0)))) con43b goal43b
noncomputable def w45b (x0 : SkD) : Option (List (List Int) × Int × Unit):=gd (okRs ((x0.1,x0.2.1,()) : SkD)) (bif !Option.isSome (readF ((x0.1,x0.2.1,()) : SkD)) then some ((([]:List (List Int)),(2:Int),()) : List (List Int) × Int × Unit) else none)
def w45b_sh : List LSh:=[LSh.mk [(1,TV.v I64)] []]
theorem goal45b : con45b.goal Try.prog (spS [con80u,con88,con89] []) w45b_sh [] lm30:=by
 have e : (∀ (s : SkD),(okRs s ∧ (readF s).isSome = false) → w45b s = some (stX s)) = con45b.goal Try.prog (spS [con80u,con88,con89] []) w45b_sh [] lm30:=by kernel_rfl
 rw [← e]
 rintro s ⟨h1,h2⟩
 have es : ((s.1,s.2.1,()) : SkD) = s:=rfl
 unfold w45b stX
 rw [es,gd_pos h1,h2]
 simp [gd_true]
theorem ok45b : con45b.Ok Try.prog:=Con.of_goalS mixed okN (okS ok80u (okS ok88 (okS ok89 okS0))) con45b goal45b
end Go.Schur
set_option maxRecDepth 100000
namespace Go.Schur
open Go Go.Ab Go.Proofs
theorem out_le {inner : List Int} {rows : List (List Int)} (h : SkOk inner rows) : ∀ {a : Nat},a < rows.length → outI inner rows a ≤ 8
 | 0,ha=>by have:=(h.cnd 0 ha).le;rwa [if_pos rfl] at this
 | a + 1,ha=>by
  have:=(h.cnd (a + 1) ha).le
  rw [if_neg (by omega),show a + 1 - 1 = a by omega] at this
  have:=out_le h (a:=a) (by omega)
  omega
theorem row_in {rows : List (List Int)} {i : Nat} (h : 0 < (rows.getD i []).length) : i < rows.length:=by
 by_cases hi : i < rows.length
 ·exact hi
 ·rw [getD_none (by omega)] at h;exact absurd h (Nat.lt_irrefl 0)
theorem bed_of {s : SkD} (h : (readF s).isSome = true) : ∃ xs,readF s = some xs ∧ bdB xs ∧ (∀ a b : Nat,a < 22 → b < 18 → bx xs a b = atR s.1 s.2.1 a b) ∧ SkOk s.1 s.2.1 ∧ inOk (s.1.length:Int) s.1:=by
 obtain ⟨xs,hx⟩:=Option.isSome_iff_exists.1 h
 have hok : SkOk s.1 s.2.1:=(read_iff (inner:=s.1) (rows:=s.2.1)).1 h
 obtain ⟨hl,hb⟩:=read_box (inner:=s.1) (rows:=s.2.1) hx
 refine ⟨xs,hx,⟨hl,fun i j hi hj=>?_⟩,hb,hok,⟨by omega,by omega,?_,fun x hx=>?_⟩⟩
 ·rw [hb i j hi hj]
  unfold atR
  have hr:=shape_row hok.shp i
  split
  ·rename_i hq
   have hil:=row_in (rows:=s.2.1) (i:=i) (by omega)
   have he:=(hok.cnd i hil).ent ((j:Int) - rowF s.1 (i:Int)).toNat (by omega)
   have ho:=out_le hok hil
   unfold outI at ho
   have:=hok.l20
   exact ⟨by omega,by omega,fun _=>by omega⟩
  ·exact ⟨by omega,by omega,fun h=>absurd rfl h⟩
 ·have:=(shapeB_iff.1 hok.shp).1;omega
 ·have:=shape_mem hok.shp x hx;omega
theorem slF_bd : ∀ {n : Nat} {xs : List Int} {i j : Nat},bdB xs → i < 20 → j < 8 → bdB (slF n xs i j)
 | 0,xs,i,j,h,_,_=>h
 | n + 1,xs,i,j,h,hi,hj=>by
  have b1:=h.2 i (j + 1) (by omega) (by omega)
  have b2:=h.2 (i + 1) j (by omega) (by omega)
  have e1 : ((i:Int) + 1) = ((i + 1:Nat):Int):=by omega
  have e2 : ((j:Int) + 1) = ((j + 1:Nat):Int):=by omega
  unfold slF
  rw [e1,e2]
  by_cases hz : bx xs i ((j + 1:Nat):Int) = 0 ∧ bx xs ((i + 1:Nat):Int) j = 0
  ·rw [if_pos hz];exact bdB_set h hi hj (by omega)
  ·rw [if_neg hz]
   by_cases hd : 0 < bx xs ((i + 1:Nat):Int) j ∧ (bx xs i ((j + 1:Nat):Int) = 0 ∨ bx xs ((i + 1:Nat):Int) j ≤ bx xs i ((j + 1:Nat):Int))
   ·rw [if_pos hd]
    exact slF_bd (bdB_set h hi hj ⟨b2.1,b2.2.1⟩) (b2.2.2 (by omega)).1 hj
   ·rw [if_neg hd]
    exact slF_bd (bdB_set h hi hj ⟨b1.1,b1.2.1⟩) hi (b1.2.2 (by omega)).2
theorem crnP_eq {l : List Int} {row : Int} : crnP row (l.length:Int) l = crnB l row:=by
 unfold crnP crnB
 rw [Int.toNat_natCast,List.take_length]
theorem crn_pos {l : List Int} {row : Int} (hs : shapeB l = true) (h : crnB l row = true) : 0 ≤ row ∧ row < (l.length:Int) ∧ 1 ≤ l.getD row.toNat 0 ∧ l.getD row.toNat 0 ≤ 8:=by
 unfold crnB at h
 rw [decide_eq_true_eq] at h
 have:=shape_mem hs (l.getD row.toNat 0) (by rw [List.getD_eq_getElem?_getD,List.getElem?_eq_getElem (by omega)];exact List.getElem_mem _)
 omega
theorem in_set {l : List Int} {row : Int} (hl : l.length ≤ 20) (hb : ∀ x ∈ l,0 ≤ x ∧ x ≤ 8) (h0 : 0 ≤ row) (h1 : row < (l.length:Int)) {v : Int} (hv : 0 ≤ v ∧ v ≤ 8) : inOk (((lenP row (l.length:Int) l).toNat:Nat):Int) (l.set row.toNat v):=by
 refine ⟨by omega,?_,by rw [List.length_set];exact hl,fun x hx=>?_⟩
 ·rw [List.length_set];unfold lenP;split <;> omega
 ·rcases List.mem_or_eq_of_mem_set hx with h | h
  ·exact hb x h
  ·rw [h];exact hv
theorem goal43a : con43a.goal Try.prog (spS [con80,con87,con88,con89] []) g43a_sh [] lm30:=by
 have e : (∀ (s : SkD) (row:Int),(okRs s ∧ (readF s).isSome = true) → g43a s row = some (slX s row)) = con43a.goal Try.prog (spS [con80,con87,con88,con89] []) g43a_sh [] lm30:=by kernel_rfl
 rw [← e]
 rintro s row ⟨h1,h2⟩
 have es : ((s.1,s.2.1,()) : SkD) = s:=rfl
 obtain ⟨xs,hx,hB,hbx,hok,hin⟩:=bed_of h2
 unfold g43a slX
 rw [es,gd_pos ⟨h1,h2⟩,crnP_eq,hx]
 cases hc : crnB s.1 row with
 | false=>simp [gd_true,hin]
 | true =>
  obtain ⟨c0,c1,c2,c3⟩:=crn_pos hok.shp hc
  have c1n : row.toNat < s.1.length:=by omega
  have p1 : bdB xs ∧ inOk (s.1.length:Int) s.1 ∧ 0 ≤ row ∧ row < (s.1.length:Int) ∧ 1 ≤ s.1.getD row.toNat 0:=⟨hB,hin,c0,c1,c2⟩
  have hl8:=(shapeB_iff.1 hok.shp).1
  have p2 : bdB (slF (30 - (row + (s.1.getD row.toNat 0 - 1))).toNat xs row (s.1.getD row.toNat 0 - 1)):=by
   have:=slF_bd (n:=(30 - (row + (s.1.getD row.toNat 0 - 1))).toNat) (i:=row.toNat) (j:=(s.1.getD row.toNat 0 - 1).toNat) hB (by omega) (by omega)
   rwa [Int.toNat_of_nonneg (by omega),Int.toNat_of_nonneg (by omega)] at this
  have p3:=in_set (l:=s.1) (row:=row) (by omega) hin.2.2.2 c0 c1 (v:=s.1.getD row.toNat 0 - 1) (by omega)
  simp only [Option.isSome_some,Option.getD_some,Bool.not_true,Bool.not_false,cond_true,cond_false,gd_true,true_implies,true_and,and_self,if_true,hin,Bool.true_eq_false,false_implies,Bool.false_eq_true]
  rw [gd_pos ⟨hB,c0,c1,c2⟩,gd_pos ⟨p2,p3⟩]
  rfl
theorem ok43a : con43a.Ok Try.prog:=Con.of_goalS mixed okN (okS ok80 (okS ok87 (okS ok88 (okS ok89 okS0)))) con43a goal43a
theorem ok43 : con43.Ok Try.prog:=Con.or ok43a ok43b fun env p hE hp ha=>by
 match env,hE with
 | [_,_],⟨⟨x,rfl⟩,⟨y,rfl⟩,_⟩ =>
  have hp' : some [okRs x] = some p:=hp
  cases hp'
  have hx : okRs x:=Ab.allP_one.1 ha
  cases hq : (readF x).isSome with
  | true=>exact .inl ⟨_,rfl,Ab.allP_one.2 ⟨hx,hq⟩⟩
  | false=>exact .inr ⟨_,rfl,Ab.allP_one.2 ⟨hx,hq⟩⟩
end Go.Schur
set_option maxRecDepth 100000
namespace Go.Schur
open Go Go.Ab Go.Proofs
theorem sum_takeS {l : List Int} {k : Nat} (h : k < l.length) : (l.take (k + 1)).sum = (l.take k).sum + l.getD k 0:=by
 rw [List.take_add_one,List.sum_append,List.getElem?_eq_getElem h,List.getD_eq_getElem?_getD,List.getElem?_eq_getElem h]
 simp
theorem take_setS {l : List Int} {k : Nat} {v : Int} : (l.set k v).take k = l.take k:=by
 refine List.ext_getElem (by simp) fun i h1 h2=>?_
 have : i < k:=by simp at h2;omega
 rw [List.getElem_take,List.getElem_take,List.getElem_set_ne (by omega)]
theorem sum_pos {l : List Int} (h : ∀ x ∈ l,0 ≤ x) : 0 ≤ l.sum:=by
 induction l with
 | nil=>simp
 | cons x l ih =>
  rw [List.sum_cons]
  have:=h x (List.mem_cons_self ..)
  have:=ih fun y hy=>h y (List.mem_cons_of_mem _ hy)
  omega
abbrev D45:=List Int × Int × List Int × Unit
noncomputable def st45 (d1 : D45) : Option (Lp D45 (List (List Int) × Int × Unit)):=bif ilt (0) (↑(Int.toNat d1.2.1)) then gd (bdB d1.1 ∧ inOk (↑(Int.toNat d1.2.1)) d1.2.2.1 ∧ (0) ≤ wr .i64 ((↑(Int.toNat d1.2.1)) - (1)) ∧ wr .i64 ((↑(Int.toNat d1.2.1)) - (1)) < (↑(Int.toNat d1.2.1)) ∧ (1) ≤ List.getD d1.2.2.1 (Int.toNat (wr .i64 ((↑(Int.toNat d1.2.1)) - (1)))) (0)) (some (Lp.go ((slF (Int.toNat ((30) - (wr .i64 ((↑(Int.toNat d1.2.1)) - (1)) + (List.getD d1.2.2.1 (Int.toNat (wr .i64 ((↑(Int.toNat d1.2.1)) - (1)))) (0) - (1))))) d1.1 (wr .i64 ((↑(Int.toNat d1.2.1)) - (1))) (List.getD d1.2.2.1 (Int.toNat (wr .i64 ((↑(Int.toNat d1.2.1)) - (1)))) (0) - (1)),(↑(Int.toNat (lenP (wr .i64 ((↑(Int.toNat d1.2.1)) - (1))) (↑(Int.toNat d1.2.1)) d1.2.2.1))),List.set d1.2.2.1 (Int.toNat (wr .i64 ((↑(Int.toNat d1.2.1)) - (1)))) (List.getD d1.2.2.1 (Int.toNat (wr .i64 ((↑(Int.toNat d1.2.1)) - (1)))) (0) - (1)),()) : D45))) else gd (bdB d1.1 ∧ inOk (↑(Int.toNat d1.2.1)) d1.2.2.1) (some (Lp.out ((skRows d1.1 (List.take (Int.toNat d1.2.1) d1.2.2.1) (21:Nat),(0),()) : List (List Int) × Int × Unit)))
theorem loop45 : ∀ (m n:Nat) (xs inner:List Int),bdB xs → n ≤ inner.length → inner.length ≤ 20 → (∀ x ∈ inner,0 ≤ x ∧ x ≤ 8) → (∀ i,i < n → 1 ≤ inner.getD i 0) → (inner.take n).sum ≤ (m:Int) →
  whileO st45 ((xs,(n:Int),inner,()) : D45) = some ((skwB (strB m (xs,(n:Int),inner))).2.1,0,()):=by
 have base : ∀ (m:Nat) (xs inner:List Int),bdB xs → inner.length ≤ 20 → (∀ x ∈ inner,0 ≤ x ∧ x ≤ 8) → whileO st45 ((xs,((0:Nat):Int),inner,()) : D45) = some ((skwB (strB m (xs,((0:Nat):Int),inner))).2.1,0,()):=fun m xs inner hB h20 hb=>by
  have e : strB m (xs,((0:Nat):Int),inner) = (xs,((0:Nat):Int),inner):=by
   cases m with
   | zero=>rfl
   | succ m=>unfold strB;rw [if_pos (by simp)]
  rw [e]
  refine whileO_out ?_
  unfold st45
  simp only [Int.toNat_natCast]
  rw [cond_f (ilt_false.2 (by omega)),gd_pos ⟨hB,by omega,by omega,h20,hb⟩]
  rfl
 intro m
 induction m with
 | zero =>
  intro n xs inner hB hn h20 hb h1 hs
  cases n with
  | zero=>exact base _ _ _ hB h20 hb
  | succ k =>
   rw [sum_takeS (by omega)] at hs
   have:=h1 k (by omega)
   have:=sum_pos (l:=inner.take k) fun x hx=>(hb x (List.mem_of_mem_take hx)).1
   omega
 | succ m ih =>
  intro n xs inner hB hn h20 hb h1 hs
  cases n with
  | zero=>exact base _ _ _ hB h20 hb
  | succ k =>
   have hv:=h1 k (by omega)
   have hv8:=hb (inner.getD k 0) (by rw [List.getD_eq_getElem?_getD,List.getElem?_eq_getElem (by omega)];exact List.getElem_mem _)
   have w : wr .i64 (((k + 1:Nat):Int) - 1) = (k:Int):=by rw [wr_id (by omega)];omega
   rw [sum_takeS (by omega)] at hs
   have hn0 : ¬ (((k + 1:Nat):Int) ≤ 0):=by omega
   have ek : ((k + 1:Nat):Int) - 1 = (k:Int):=by omega
   have hslb : bdB (slF (30 - ((k:Int) + (inner.getD k 0 - 1))).toNat xs (k:Int) (inner.getD k 0 - 1)):=by
    have:=slF_bd (n:=(30 - ((k:Int) + (inner.getD k 0 - 1))).toNat) (i:=k) (j:=(inner.getD k 0 - 1).toNat) hB (by omega) (by omega)
    rwa [Int.toNat_of_nonneg (by omega)] at this
   have hset : ∀ x ∈ inner.set k (inner.getD k 0 - 1),0 ≤ x ∧ x ≤ 8:=fun x hx=>by
    rcases List.mem_or_eq_of_mem_set hx with h | h
    ·exact hb x h
    ·rw [h];omega
   have hget : ∀ i,(inner.set k (inner.getD k 0 - 1)).getD i 0 = if k = i then inner.getD k 0 - 1 else inner.getD i 0:=fun i=>by
    by_cases h : k = i
    ·subst h
     rw [if_pos rfl,List.getD_eq_getElem?_getD,List.getElem?_set_self (by omega)];rfl
    ·rw [if_neg h,List.getD_eq_getElem?_getD,List.getElem?_set_ne h,← List.getD_eq_getElem?_getD]
   have eB : strB (m + 1) (xs,((k + 1:Nat):Int),inner) = strB m (sldB xs ((k + 1:Nat):Int) inner (k:Int)):=by
    rw [strB]
    rw [if_neg hn0,ek]
   rw [eB]
   by_cases hone : inner.getD k 0 = 1
   ·have eS : sldB xs ((k + 1:Nat):Int) inner (k:Int) = (slF (30 - ((k:Int) + (inner.getD k 0 - 1))).toNat xs (k:Int) (inner.getD k 0 - 1),(k:Int),inner.set k (inner.getD k 0 - 1)):=by
     unfold sldB lenP
     rw [Int.toNat_natCast,if_pos hone]
    rw [eS]
    refine (whileO_go (s':=(((slF (30 - ((k:Int) + (inner.getD k 0 - 1))).toNat xs (k:Int) (inner.getD k 0 - 1),(k:Int),inner.set k (inner.getD k 0 - 1),()) : D45))) ?_).trans (ih k _ _ hslb (by rw [List.length_set];omega) (by rw [List.length_set];exact h20) hset (fun i hi=>by rw [hget,if_neg (by omega)];exact h1 i (by omega)) (by rw [take_setS];omega))
    unfold st45
    simp only [Int.toNat_natCast,w]
    rw [cond_t (ilt_iff.2 (by omega)),gd_pos ⟨hB,⟨by omega,by omega,h20,hb⟩,by omega,by omega,hv⟩]
    unfold lenP
    rw [Int.toNat_natCast,if_pos hone,Int.toNat_natCast]
   ·have eS : sldB xs ((k + 1:Nat):Int) inner (k:Int) = (slF (30 - ((k:Int) + (inner.getD k 0 - 1))).toNat xs (k:Int) (inner.getD k 0 - 1),((k + 1:Nat):Int),inner.set k (inner.getD k 0 - 1)):=by
     unfold sldB lenP
     rw [Int.toNat_natCast,if_neg hone]
    rw [eS]
    refine (whileO_go (s':=(((slF (30 - ((k:Int) + (inner.getD k 0 - 1))).toNat xs (k:Int) (inner.getD k 0 - 1),((k + 1:Nat):Int),inner.set k (inner.getD k 0 - 1),()) : D45))) ?_).trans (ih (k + 1) _ _ hslb (by rw [List.length_set];omega) (by rw [List.length_set];exact h20) hset (fun i hi=>by rw [hget];split;omega;exact h1 i (by omega)) (by rw [sum_takeS (by rw [List.length_set];omega),take_setS,hget,if_pos rfl];omega))
    unfold st45
    simp only [Int.toNat_natCast,w]
    rw [cond_t (ilt_iff.2 (by omega)),gd_pos ⟨hB,⟨by omega,by omega,h20,hb⟩,by omega,by omega,hv⟩]
    unfold lenP
    rw [Int.toNat_natCast,if_neg hone,Int.toNat_natCast]
theorem goal45a : con45a.goal Try.prog (spS [con80,con88,con89] []) g45a_sh [] lm30:=by
 have e : (∀ (s : SkD),(okRs s ∧ (readF s).isSome = true) → g45a s = some (stX s)) = con45a.goal Try.prog (spS [con80,con88,con89] []) g45a_sh [] lm30:=by kernel_rfl
 rw [← e]
 rintro s ⟨h1,h2⟩
 have es : ((s.1,s.2.1,()) : SkD) = s:=rfl
 obtain ⟨xs,hx,hB,hbx,hok,hin⟩:=bed_of h2
 unfold g45a stX
 rw [es,gd_pos ⟨h1,h2⟩,if_pos h2,hx]
 have hl8:=(shapeB_iff.1 hok.shp).1
 have:=loop45 40 s.1.length xs s.1 hB (Nat.le_refl _) (by omega) hin.2.2.2 (fun i hi=>(shape_mem hok.shp (s.1.getD i 0) (by rw [List.getD_eq_getElem?_getD,List.getElem?_eq_getElem hi];exact List.getElem_mem _)).1) (by rw [List.take_length];have:=(shapeB_iff.1 hok.shp).2.2;omega)
 exact this
theorem ok45a : con45a.Ok Try.prog:=Con.of_goalS mixed okN (okS ok80 (okS ok88 (okS ok89 okS0))) con45a goal45a
theorem ok45 : con45.Ok Try.prog:=Con.or ok45a ok45b fun env p hE hp ha=>by
 match env,hE with
 | [_],⟨⟨x,rfl⟩,_⟩ =>
  have hp' : some [okRs x] = some p:=hp
  cases hp'
  have hx : okRs x:=Ab.allP_one.1 ha
  cases hq : (readF x).isSome with
  | true=>exact .inl ⟨_,rfl,Ab.allP_one.2 ⟨hx,hq⟩⟩
  | false=>exact .inr ⟨_,rfl,Ab.allP_one.2 ⟨hx,hq⟩⟩
end Go.Schur
set_option maxRecDepth 100000
namespace Go.Schur
open Go Go.Ab Go.Proofs
theorem atX_eq {inner : List Int} {rows : List (List Int)} {i : Nat} {j : Int} : atX inner rows i j = atR inner rows i j:=by
 unfold atX atR
 by_cases h : rowF inner (i:Int) ≤ j ∧ j < rowF inner (i:Int) + ((rows.getD i []).length:Int)
 ·rw [if_pos h,if_pos (by omega)]
 ·rw [if_neg h,if_neg (by omega)]
theorem getD_setR {rows : List (List Int)} {i a : Nat} (hi : i < rows.length) {r : List Int} : (rows.set i r).getD a [] = if a = i then r else rows.getD a []:=by
 by_cases h : a = i
 ·subst h;rw [if_pos rfl,List.getD_eq_getElem?_getD,List.getElem?_set_self hi];rfl
 ·rw [if_neg h,List.getD_eq_getElem?_getD,List.getElem?_set_ne (fun e=>h e.symm),← List.getD_eq_getElem?_getD]
theorem len_setR {rows : List (List Int)} {i a c : Nat} (hi : i < rows.length) {v : Int} : ((rows.set i ((rows.getD i []).set c v)).getD a []).length = (rows.getD a []).length:=by
 rw [getD_setR hi]
 split
 ·rename_i h;subst h;rw [List.length_set]
 ·rfl
theorem el_setR {rows : List (List Int)} {i a b c : Nat} (hi : i < rows.length) (hc : c < (rows.getD i []).length) {v : Int} : el (rows.set i ((rows.getD i []).set c v)) a b = if a = i ∧ b = c then v else el rows a b:=by
 unfold el
 rw [getD_setR hi]
 by_cases h : a = i
 ·subst h
  rw [if_pos rfl]
  by_cases hb : b = c
  ·subst hb
   rw [if_pos ⟨rfl,rfl⟩,List.getD_eq_getElem?_getD,List.getElem?_set_self hc];rfl
  ·rw [if_neg (fun h=>hb h.2),List.getD_eq_getElem?_getD,List.getElem?_set_ne (fun e=>hb e.symm),← List.getD_eq_getElem?_getD]
 ·rw [if_neg h,if_neg (fun hh=>h hh.1)]
structure HoleR (inner:List Int) (rows:List (List Int)) (i j:Nat) : Prop where
 fall : ∀ a : Nat,0 ≤ rowF inner (a:Int) ∧ rowF inner ((a + 1:Nat):Int) ≤ rowF inner (a:Int)
 l20 : rows.length ≤ 20
 dec : ∀ a : Nat,outI inner rows (a + 1) ≤ outI inner rows a
 o8 : outI inner rows 0 ≤ 8
 lt : i < rows.length
 lo : rowF inner (i:Int) ≤ (j:Int)
 hi : (j:Int) < outI inner rows i
 ent : ∀ a b : Nat,b < (rows.getD a []).length → 0 ≤ el rows a b ∧ el rows a b ≤ 8 ∧ (¬ (a = i ∧ rowF inner (i:Int) + (b:Int) = (j:Int)) → 1 ≤ el rows a b)
structure DoneR (inner:List Int) (rows:List (List Int)) : Prop where
 dec : ∀ a : Nat,outI inner rows (a + 1) ≤ outI inner rows a
 o8 : outI inner rows 0 ≤ 8
 ent : ∀ a b : Nat,b < (rows.getD a []).length → 1 ≤ el rows a b ∧ el rows a b ≤ 8
theorem out_mono {inner : List Int} {rows : List (List Int)} (h : ∀ a : Nat,outI inner rows (a + 1) ≤ outI inner rows a) : ∀ a : Nat,outI inner rows a ≤ outI inner rows 0
 | 0=>Int.le_refl _
 | a + 1=>Int.le_trans (h a) (out_mono h a)
theorem HoleR.at_pos {inner : List Int} {rows : List (List Int)} {i j : Nat} (h : HoleR inner rows i j) {a b : Nat} (hn : ¬ (a = i ∧ b = j)) (h1 : rowF inner (a:Int) ≤ (b:Int)) (h2 : (b:Int) < outI inner rows a) : 1 ≤ atR inner rows a b ∧ atR inner rows a b ≤ 8:=by
 unfold outI at h2
 unfold atR
 rw [if_pos ⟨h1,h2⟩]
 have:=h.ent a ((b:Int) - rowF inner (a:Int)).toNat (by omega)
 refine ⟨this.2.2 fun hh=>hn ⟨hh.1,?_⟩,this.2.1⟩
 have:=hh.1
 subst this
 omega
theorem at_in {inner : List Int} {rows : List (List Int)} {a : Nat} {b : Int} (h : atR inner rows a b ≠ 0) : rowF inner (a:Int) ≤ b ∧ b < outI inner rows a ∧ a < rows.length:=by
 unfold atR at h
 by_cases hq : rowF inner (a:Int) ≤ b ∧ b < rowF inner (a:Int) + ((rows.getD a []).length:Int)
 ·exact ⟨hq.1,hq.2,row_in (by omega)⟩
 ·rw [if_neg hq] at h;exact absurd rfl h
theorem at_setR {inner : List Int} {rows : List (List Int)} {i a b c j : Nat} (hi : i < rows.length) (hc : c < (rows.getD i []).length) (hj : rowF inner (i:Int) + (c:Int) = (j:Int)) {v : Int} : atR inner (rows.set i ((rows.getD i []).set c v)) a b = if a = i ∧ b = j then v else atR inner rows a b:=by
 unfold atR
 rw [len_setR hi,el_setR hi hc]
 by_cases h : a = i ∧ b = j
 ·obtain ⟨rfl,rfl⟩:=h
  have q1 : rowF inner (a:Int) ≤ (b:Int) ∧ (b:Int) < rowF inner (a:Int) + ((rows.getD a []).length:Int):=by omega
  have q2 : a = a ∧ ((b:Int) - rowF inner (a:Int)).toNat = c:=⟨rfl,by omega⟩
  have q3 : a = a ∧ b = b:=⟨rfl,rfl⟩
  rw [if_pos q1,if_pos q2,if_pos q3]
 ·rw [if_neg h]
  by_cases hq : rowF inner (a:Int) ≤ (b:Int) ∧ (b:Int) < rowF inner (a:Int) + ((rows.getD a []).length:Int)
  ·rw [if_pos hq,if_pos hq,if_neg]
   rintro ⟨rfl,h2⟩
   exact h ⟨rfl,by omega⟩
  ·rw [if_neg hq,if_neg hq]
theorem out_setR {inner : List Int} {rows : List (List Int)} {i a c : Nat} (hi : i < rows.length) {v : Int} : outI inner (rows.set i ((rows.getD i []).set c v)) a = outI inner rows a:=by
 unfold outI
 rw [len_setR hi]
theorem HoleR.move {inner : List Int} {rows : List (List Int)} {i j i' j' c : Nat} (h : HoleR inner rows i j) (hc : rowF inner (i:Int) + (c:Int) = (j:Int)) (hcl : c < (rows.getD i []).length) {v : Int} (hv : 1 ≤ v ∧ v ≤ 8) (hl : i' < rows.length) (hlo : rowF inner (i':Int) ≤ (j':Int)) (hhi : (j':Int) < outI inner rows i') :
  HoleR inner (rows.set i ((rows.getD i []).set c v)) i' j' where
 fall:=h.fall
 l20:=by rw [List.length_set];exact h.l20
 dec:=fun a=>by rw [out_setR h.lt,out_setR h.lt];exact h.dec a
 o8:=by rw [out_setR h.lt];exact h.o8
 lt:=by rw [List.length_set];exact hl
 lo:=hlo
 hi:=by rw [out_setR h.lt];exact hhi
 ent:=fun a b hb=>by
  rw [len_setR h.lt] at hb
  rw [el_setR h.lt hcl]
  have:=h.ent a b hb
  by_cases hq : a = i ∧ b = c
  ·rw [if_pos hq];omega
  ·rw [if_neg hq]
   exact ⟨this.1,this.2.1,fun _=>this.2.2 fun hh=>hq ⟨hh.1,by omega⟩⟩
theorem slide_eq {inner : List Int} : ∀ (n m:Nat) (rows:List (List Int)) (xs:List Int) (i j:Nat),28 ≤ n + i + j → 28 ≤ m + i + j → HoleR inner rows i j → xs.length = 397 → (∀ a b : Nat,a < 22 → b < 18 → bx xs a b = atR inner rows a b) →
  DoneR inner (slR inner m rows i j) ∧ (slR inner m rows i j).length = rows.length ∧ (slF n xs i j).length = 397 ∧ ∀ a b : Nat,a < 22 → b < 18 → bx (slF n xs i j) a b = atR inner (slR inner m rows i j) a b:=by
 intro n
 induction n with
 | zero =>
  intro m rows xs i j hn hm h hl hb
  have:=h.lt;have:=h.l20;have:=out_mono h.dec i;have:=h.o8;have:=h.hi
  omega
 | succ n ih =>
  intro m rows xs i j hn hm h hl hb
  have b1:=h.lt
  have b2:=h.l20
  have b3:=out_mono h.dec i
  have b4:=h.o8
  have b5:=h.hi
  have b6:=h.lo
  have b7:=h.fall i
  obtain ⟨m,rfl⟩ : ∃ k,m = k + 1:=⟨m - 1,by omega⟩
  obtain ⟨c,hc⟩ : ∃ c : Nat,rowF inner (i:Int) + (c:Int) = (j:Int):=⟨((j:Int) - rowF inner (i:Int)).toNat,by omega⟩
  have hcl : c < (rows.getD i []).length:=by unfold outI at b5;omega
  have ec : ((j:Int) - rowF inner (i:Int)).toNat = c:=by omega
  have e1 : ((i:Int) + 1) = ((i + 1:Nat):Int):=by omega
  have e2 : ((j:Int) + 1) = ((j + 1:Nat):Int):=by omega
  have hR:=hb i (j + 1) (by omega) (by omega)
  have hD:=hb (i + 1) j (by omega) (by omega)
  have pR:=h.at_pos (a:=i) (b:=j + 1) (by omega) (by omega)
  have pD:=h.at_pos (a:=i + 1) (b:=j) (by omega) (by omega)
  unfold slF slR
  rw [e1,e2,hR,hD,atX_eq,atX_eq,ec]
  generalize hvr : atR inner rows i ((j + 1:Nat):Int) = vr at *
  generalize hvd : atR inner rows (i + 1) (j:Int) = vd at *
  have iR : vr ≠ 0 → rowF inner (i:Int) ≤ ((j + 1:Nat):Int) ∧ ((j + 1:Nat):Int) < outI inner rows i ∧ i < rows.length:=fun hh=>at_in (by rw [hvr];exact hh)
  have iD : vd ≠ 0 → rowF inner ((i + 1:Nat):Int) ≤ (j:Int) ∧ (j:Int) < outI inner rows (i + 1) ∧ i + 1 < rows.length:=fun hh=>at_in (by rw [hvd];exact hh)
  have step : ∀ v : Int,∀ a b : Nat,a < 22 → b < 18 → bx (xs.set ((i:Int) * 18 + (j:Int)).toNat v) a b = atR inner (rows.set i ((rows.getD i []).set c v)) a b:=fun v a b ha hb'=>by
   rw [bx_set (by omega) hb' hl (by omega),at_setR b1 hcl hc,hb a b ha hb']
  by_cases hz : vr = 0 ∧ vd = 0
  ·rw [if_pos hz,if_pos hz]
   have hout : outI inner rows i = (j:Int) + 1:=by
    by_cases hh : ((j + 1:Nat):Int) < outI inner rows i
    ·have:=pR hh;omega
    ·omega
   have hlen : (rows.getD i []).length = c + 1:=by unfold outI at hout;omega
   have hdn : outI inner rows (i + 1) ≤ (j:Int):=by
    by_cases hh : (j:Int) < outI inner rows (i + 1)
    ·have:=pD hh;omega
    ·omega
   have lenT : ∀ a,((rows.set i ((rows.getD i []).take c)).getD a []).length = if a = i then c else (rows.getD a []).length:=fun a=>by
    rw [getD_setR b1]
    split
    ·rw [List.length_take];omega
    ·rfl
   have elT : ∀ a b,b < ((rows.set i ((rows.getD i []).take c)).getD a []).length → el (rows.set i ((rows.getD i []).take c)) a b = el rows a b:=fun a b hb'=>by
    rw [lenT] at hb'
    unfold el
    rw [getD_setR b1]
    by_cases ha : a = i
    ·rw [if_pos ha] at hb'
     rw [if_pos ha,ha,List.getD_eq_getElem?_getD,List.getElem?_take_of_lt hb',← List.getD_eq_getElem?_getD]
    ·rw [if_neg ha]
   have outT : ∀ a,outI inner (rows.set i ((rows.getD i []).take c)) a = if a = i then (j:Int) else outI inner rows a:=fun a=>by
    unfold outI
    rw [lenT]
    by_cases ha : a = i
    ·rw [if_pos ha,if_pos ha,ha];exact hc
    ·rw [if_neg ha,if_neg ha]
   refine ⟨⟨fun a=>?_,?_,fun a b hb'=>?_⟩,by rw [List.length_set],by rw [List.length_set];exact hl,fun a b ha hb'=>?_⟩
   ·rw [outT,outT]
    have:=h.dec a
    by_cases h1 : a + 1 = i
    ·rw [if_pos h1,if_neg (by omega)];rw [h1] at this;omega
    ·rw [if_neg h1]
     by_cases h2 : a = i
     ·rw [if_pos h2,h2];exact hdn
     ·rw [if_neg h2];exact this
   ·rw [outT];split <;> omega
   ·rw [elT a b hb']
    rw [lenT] at hb'
    have hb2 : b < (rows.getD a []).length:=by
     by_cases ha : a = i
     ·rw [if_pos ha] at hb';rw [ha];omega
     ·rw [if_neg ha] at hb';exact hb'
    have:=h.ent a b hb2
    refine ⟨this.2.2 fun hh=>?_,this.2.1⟩
    rw [if_pos hh.1] at hb'
    omega
   ·rw [bx_set (by omega) hb' hl (by omega),hb a b ha hb']
    unfold atR
    rw [lenT]
    by_cases ha : a = i
    ·rw [if_pos ha,ha]
     by_cases hbj : b = j
     ·rw [if_pos ⟨rfl,hbj⟩,if_neg (by omega)]
     ·rw [if_neg (fun hh=>hbj hh.2)]
      by_cases hq : rowF inner (i:Int) ≤ (b:Int) ∧ (b:Int) < rowF inner (i:Int) + (c:Int)
      ·rw [if_pos hq,if_pos (by omega),elT i _ (by rw [lenT,if_pos rfl];omega)]
      ·rw [if_neg hq,if_neg (by omega)]
    ·rw [if_neg ha,if_neg (fun hh=>ha hh.1)]
     by_cases hq : rowF inner (a:Int) ≤ (b:Int) ∧ (b:Int) < rowF inner (a:Int) + ((rows.getD a []).length:Int)
     ·rw [if_pos hq,if_pos hq,elT a _ (by rw [lenT,if_neg ha];omega)]
     ·rw [if_neg hq,if_neg hq]
  ·rw [if_neg hz,if_neg hz]
   by_cases hd : 0 < vd ∧ (vr = 0 ∨ vd ≤ vr)
   ·rw [if_pos hd,if_pos hd]
    have q:=iD (by omega)
    have p:=pD q.2.1
    have:=ih m _ _ (i + 1) j (by omega) (by omega) (h.move hc hcl (v:=vd) p q.2.2 q.1 q.2.1) (by rw [List.length_set];exact hl) (step vd)
    rw [List.length_set] at this
    exact this
   ·rw [if_neg hd,if_neg hd]
    have hd0 : 0 ≤ vd:=by
     by_cases hh : vd = 0
     ·omega
     ·have:=pD (iD hh).2.1;omega
    have hr0 : vr ≠ 0:=fun hh=>by
     have : vd ≠ 0:=fun h0=>hz ⟨hh,h0⟩
     exact hd ⟨by omega,.inl hh⟩
    have q:=iR hr0
    have p:=pR q.2.1
    have:=ih m _ _ i (j + 1) (by omega) (by omega) (h.move hc hcl (v:=vr) p q.2.2 q.1 q.2.1) (by rw [List.length_set];exact hl) (step vr)
    rw [List.length_set] at this
    exact this
end Go.Schur
set_option maxRecDepth 100000
namespace Go.Schur
open Go Go.Ab Go.Proofs
def decI (l:List Int) (row:Int) : List Int:=l.set row.toNat (l.getD row.toNat 0 - 1)
def holeI (rows:List (List Int)) (row:Int) : List (List Int):=rows.set row.toNat (0 :: rows.getD row.toNat [])
theorem dec_row {l : List Int} {row : Int} (h0 : 0 ≤ row) (h1 : row < (l.length:Int)) {a : Nat} : rowF (decI l row) (a:Int) = if a = row.toNat then l.getD row.toNat 0 - 1 else rowF l (a:Int):=by
 rw [rowF_nat,rowF_nat]
 unfold decI
 by_cases h : a = row.toNat
 ·rw [if_pos h,h,List.getD_eq_getElem?_getD,List.getElem?_set_self (by omega)];rfl
 ·rw [if_neg h,List.getD_eq_getElem?_getD,List.getElem?_set_ne (fun e=>h e.symm),← List.getD_eq_getElem?_getD]
theorem hole_len {rows : List (List Int)} {row : Int} (h : row.toNat < rows.length) {a : Nat} : ((holeI rows row).getD a []).length = if a = row.toNat then (rows.getD a []).length + 1 else (rows.getD a []).length:=by
 unfold holeI
 rw [getD_setR h]
 split
 ·rename_i hq;rw [List.length_cons,hq]
 ·rfl
theorem hole_el {rows : List (List Int)} {row : Int} (h : row.toNat < rows.length) {a b : Nat} : el (holeI rows row) a b = if a = row.toNat then (if b = 0 then 0 else el rows a (b - 1)) else el rows a b:=by
 unfold holeI el
 rw [getD_setR h]
 by_cases ha : a = row.toNat
 ·rw [if_pos ha,if_pos ha,ha]
  cases b with
  | zero=>rfl
  | succ b=>rw [if_neg (by omega)];simp
 ·rw [if_neg ha,if_neg ha]
theorem hole_of {l : List Int} {rows : List (List Int)} (h : BedR l rows) {row : Int} (hc : crnB l row = true) : HoleR (decI l row) (holeI rows row) row.toNat (l.getD row.toNat 0 - 1).toNat ∧ ∀ a b : Nat,atR (decI l row) (holeI rows row) a b = atR l rows a b:=by
 obtain ⟨c0,c1,c2,c3⟩:=crn_pos h.shp hc
 have hlen:=h.len
 have hr : row.toNat < rows.length:=by omega
 have hrow : rowF l ((row.toNat:Nat):Int) = l.getD row.toNat 0:=rowF_nat ..
 have hcorner : rowF l ((row.toNat + 1:Nat):Int) < l.getD row.toNat 0:=by
  unfold crnB at hc
  rw [decide_eq_true_eq] at hc
  have e : row + 1 = ((row.toNat + 1:Nat):Int):=by omega
  have e2 : rowF l row = rowF l ((row.toNat:Nat):Int):=by rw [Int.toNat_of_nonneg c0]
  rw [e,e2,hrow] at hc
  exact hc.2.2
 have hout : ∀ a,outI (decI l row) (holeI rows row) a = outI l rows a:=fun a=>by
  unfold outI
  rw [dec_row c0 c1,hole_len hr]
  by_cases ha : a = row.toNat
  ·rw [if_pos ha,if_pos ha,ha,hrow];omega
  ·rw [if_neg ha,if_neg ha]
 refine ⟨⟨fun a=>?_,?_,fun a=>?_,?_,?_,?_,?_,fun a b hb=>?_⟩,fun a b=>?_⟩
 ·rw [dec_row c0 c1,dec_row c0 c1]
  have s:=shape_row h.shp a
  by_cases h1 : a = row.toNat
  ·rw [if_pos h1,if_neg (by omega),h1];omega
  ·rw [if_neg h1]
   by_cases h2 : a + 1 = row.toNat
   ·rw [if_pos h2];rw [h2,hrow] at s;omega
   ·rw [if_neg h2];omega
 ·unfold holeI;rw [List.length_set];exact h.l20
 ·rw [hout,hout];exact h.dec a
 ·rw [hout];exact h.o8
 ·unfold holeI;rw [List.length_set];exact hr
 ·rw [dec_row c0 c1,if_pos rfl];omega
 ·rw [hout];unfold outI;rw [hrow];omega
 ·rw [hole_len hr] at hb
  rw [hole_el hr,dec_row c0 c1,if_pos rfl]
  by_cases ha : a = row.toNat
  ·rw [if_pos ha] at hb ⊢
   by_cases hb0 : b = 0
   ·rw [if_pos hb0]
    refine ⟨by omega,by omega,fun hh=>absurd ⟨ha,by omega⟩ hh⟩
   ·rw [if_neg hb0]
    have:=h.ent a (b - 1) (by omega)
    omega
  ·rw [if_neg ha] at hb ⊢
   have:=h.ent a b hb
   omega
 ·unfold atR
  rw [dec_row c0 c1,hole_len hr]
  by_cases ha : a = row.toNat
  ·rw [if_pos ha,if_pos ha,hole_el hr,if_pos ha]
   have e : rowF l (a:Int) = l.getD row.toNat 0:=by rw [ha];exact hrow
   rw [e]
   by_cases h1 : l.getD row.toNat 0 ≤ (b:Int) ∧ (b:Int) < l.getD row.toNat 0 + ((rows.getD a []).length:Int)
   ·rw [if_pos h1,if_pos (by omega),if_neg (by omega)]
    congr 1
    omega
   ·rw [if_neg h1]
    by_cases h2 : l.getD row.toNat 0 - 1 ≤ (b:Int) ∧ (b:Int) < l.getD row.toNat 0 - 1 + (((rows.getD a []).length + 1:Nat):Int)
    ·rw [if_pos h2,if_pos (by omega)]
    ·rw [if_neg h2]
  ·rw [if_neg ha,if_neg ha,hole_el hr,if_neg ha]
end Go.Schur
set_option maxRecDepth 100000
namespace Go.Schur
open Go Go.Ab Go.Proofs
theorem trim_take : ∀ {o : List Int} {p : Nat},p ≤ o.length → (∀ i,p ≤ i → o.getD i 0 = 0) → (0 < p → o.getD (p - 1) 0 ≠ 0) → trimZ o = o.take p
 | [],p,hp,_,_=>by simp [trimZ]
 | x :: o,0,hp,hz,_=>by
  have ih:=trim_take (o:=o) (p:=0) (Nat.zero_le _) (fun i hi=>by have:=hz (i + 1) (Nat.zero_le _);simpa using this) (fun h=>absurd h (Nat.lt_irrefl 0))
  have hx : x = 0:=by have:=hz 0 (Nat.le_refl _);simpa using this
  rw [trimZ,ih,if_pos ⟨by simp,hx⟩];rfl
 | x :: o,p + 1,hp,hz,hl=>by
  have ih:=trim_take (o:=o) (p:=p) (by simpa using hp) (fun i hi=>by have:=hz (i + 1) (by omega);simpa using this) (fun h=>by
   have:=hl (by omega)
   obtain ⟨q,rfl⟩ : ∃ q,p = q + 1:=⟨p - 1,by omega⟩
   simpa using this)
  rw [trimZ,ih,List.take_succ_cons]
  rw [if_neg]
  rintro ⟨h1,h2⟩
  have hl' : p ≤ o.length:=by simpa using hp
  have : (o.take p).length = 0:=by rw [h1];rfl
  rw [List.length_take] at this
  have hp0 : p = 0:=by omega
  subst hp0
  exact hl (by omega) (by simpa using h2)
theorem sum_setS : ∀ {l : List Int} {r : Nat} {v : Int},r < l.length → (l.set r v).sum = l.sum - l.getD r 0 + v
 | [],r,v,h=>absurd h (Nat.not_lt_zero _)
 | x :: l,0,v,h=>by simp;omega
 | x :: l,r + 1,v,h=>by
  have:=sum_setS (l:=l) (r:=r) (v:=v) (by simpa using h)
  simp only [List.set_cons_succ,List.sum_cons,List.getD_cons_succ,this]
  omega
theorem sum_takeL {l : List Int} {p : Nat} (h : ∀ x ∈ l,0 ≤ x) : (l.take p).sum ≤ l.sum:=by
 have e : l.sum = (l.take p).sum + (l.drop p).sum:=by rw [← List.sum_append,List.take_append_drop]
 have:=sum_pos (l:=l.drop p) fun x hx=>h x (List.mem_of_mem_drop hx)
 omega
theorem getD_takeS {l : List Int} {p i : Nat} (h : i < p) : (l.take p).getD i 0 = l.getD i 0:=by
 rw [List.getD_eq_getElem?_getD,List.getElem?_take_of_lt h,← List.getD_eq_getElem?_getD]
theorem trim_dec {l : List Int} {rows : List (List Int)} (h : BedR l rows) {row : Int} (hc : crnB l row = true) : trimZ (decI l row) = (decI l row).take (lenP row (l.length:Int) l).toNat ∧ shapeB ((decI l row).take (lenP row (l.length:Int) l).toNat) = true:=by
 obtain ⟨c0,c1,c2,c3⟩:=crn_pos h.shp hc
 have hH:=(hole_of h hc).1
 have hcorner : rowF l (row + 1) < rowF l row:=by
  unfold crnB at hc
  rw [decide_eq_true_eq] at hc
  exact hc.2.2
 have e0 : rowF l row = l.getD row.toNat 0:=by unfold rowF;rw [if_neg (by omega)]
 have e1 : rowF l (row + 1) = l.getD (row.toNat + 1) 0:=by unfold rowF;rw [if_neg (by omega)];congr 1;omega
 rw [e0,e1] at hcorner
 have hpos : ∀ i,i < l.length → 1 ≤ l.getD i 0 ∧ l.getD i 0 ≤ 8:=fun i hi=>shape_mem h.shp (l.getD i 0) (by rw [List.getD_eq_getElem?_getD,List.getElem?_eq_getElem hi];exact List.getElem_mem _)
 have hlen : (decI l row).length = l.length:=by unfold decI;rw [List.length_set]
 have hget : ∀ i : Nat,(decI l row).getD i 0 = if i = row.toNat then l.getD row.toNat 0 - 1 else l.getD i 0:=fun i=>by
  have:=dec_row c0 c1 (a:=i)
  rwa [rowF_nat,rowF_nat] at this
 have hout : ∀ i,l.length ≤ i → l.getD i 0 = 0:=fun i hi=>by rw [List.getD_eq_getElem?_getD,List.getElem?_eq_none hi];rfl
 have hl8:=(shapeB_iff.1 h.shp).1
 have hs8:=(shapeB_iff.1 h.shp).2.2
 have hp : ∃ p : Nat,(lenP row (l.length:Int) l).toNat = p ∧ p ≤ l.length ∧ (∀ i,p ≤ i → (decI l row).getD i 0 = 0) ∧ ∀ i,i < p → 1 ≤ (decI l row).getD i 0 ∧ (decI l row).getD i 0 ≤ 8:=by
  unfold lenP
  by_cases h1 : l.getD row.toNat 0 = 1
  ·rw [if_pos h1]
   have hlast : l.length = row.toNat + 1:=by
    by_cases hh : row.toNat + 1 < l.length
    ·have:=hpos _ hh;omega
    ·omega
   refine ⟨row.toNat,rfl,by omega,fun i hi=>?_,fun i hi=>?_⟩
   ·rw [hget]
    by_cases hi2 : i = row.toNat
    ·rw [if_pos hi2];omega
    ·rw [if_neg hi2];exact hout i (by omega)
   ·rw [hget,if_neg (by omega)];exact hpos i (by omega)
  ·rw [if_neg h1]
   refine ⟨l.length,by omega,Nat.le_refl _,fun i hi=>?_,fun i hi=>?_⟩
   ·rw [hget,if_neg (by omega)];exact hout i hi
   ·rw [hget]
    have:=hpos i hi
    split
    ·rename_i hq;rw [hq] at this;omega
    ·exact this
 obtain ⟨p,ep,hp1,hp2,hp3⟩:=hp
 rw [ep]
 refine ⟨trim_take (by omega) hp2 (fun h0=>by have:=hp3 (p - 1) (by omega);omega),?_⟩
 rw [shapeB_iff]
 refine ⟨by rw [List.length_take];omega,fun i hi=>?_,?_⟩
 ·rw [List.length_take] at hi
  rw [rowOk_iff,getD_takeS (by omega)]
  refine ⟨hp3 i (by omega),?_⟩
  by_cases h0 : i = 0
  ·exact .inl h0
  ·right
   rw [getD_takeS (by omega)]
   have:=(hH.fall (i - 1)).2
   rw [show i - 1 + 1 = i by omega,rowF_nat,rowF_nat] at this
   exact this
 ·have h1:=sum_takeL (l:=decI l row) (p:=p) fun x hx=>by
   unfold decI at hx
   rcases List.mem_or_eq_of_mem_set hx with h | hq
   ·have:=shape_mem ‹BedR l rows›.shp x h;omega
   ·rw [hq];omega
  have h2:=sum_setS (l:=l) (r:=row.toNat) (v:=l.getD row.toNat 0 - 1) (by omega)
  unfold decI at h1 ⊢
  omega
theorem runB_eq {xs inner : List Int} {rows : List (List Int)} {i : Nat} (hi : i < 22) (hb : ∀ b : Nat,b < 18 → bx xs i b = atR inner rows i b) (h0 : 0 ≤ rowF inner (i:Int)) (h8 : outI inner rows i ≤ 8) (he : ∀ b,b < (rows.getD i []).length → 1 ≤ el rows i b) :
  ∀ {n k : Nat},k ≤ (rows.getD i []).length → (rows.getD i []).length < k + n → runB n xs i (rowF inner (i:Int) + (k:Int)) = (rows.getD i []).drop k
 | 0,k,h1,h2=>by omega
 | n + 1,k,h1,h2=>by
  unfold outI at h8
  obtain ⟨b,eb⟩ : ∃ b : Nat,rowF inner (i:Int) + (k:Int) = (b:Int):=⟨(rowF inner (i:Int) + (k:Int)).toNat,by omega⟩
  have hx:=hb b (by omega)
  unfold runB
  rw [eb,hx]
  by_cases hk : k < (rows.getD i []).length
  ·have h:=he k hk
   have hv : atR inner rows i (b:Int) = el rows i k:=by
    unfold atR
    rw [if_pos (by omega),show ((b:Int) - rowF inner (i:Int)).toNat = k by omega]
   rw [hv,if_pos (by omega),List.drop_eq_getElem_cons hk]
   have ih:=runB_eq hi hb h0 (by unfold outI;exact h8) he (n:=n) (k:=k + 1) (by omega) (by omega)
   rw [show (b:Int) + 1 = rowF inner (i:Int) + ((k + 1:Nat):Int) by omega,ih]
   congr 1
   unfold el
   rw [List.getD_eq_getElem?_getD,List.getElem?_eq_getElem hk];rfl
  ·have hv : atR inner rows i (b:Int) = 0:=by
    unfold atR
    rw [if_neg (by omega)]
   rw [hv,if_neg (by omega),List.drop_eq_nil_of_le (by omega)]
theorem skRows_eq {xs inner : List Int} {rows : List (List Int)} (hb : ∀ a b : Nat,a < 22 → b < 18 → bx xs a b = atR inner rows a b) (h0 : ∀ a : Nat,0 ≤ rowF inner (a:Int)) (h8 : ∀ a : Nat,outI inner rows a ≤ 8) (he : ∀ a b,b < (rows.getD a []).length → 1 ≤ el rows a b) {K : Nat} (hK : K ≤ rows.length)
  (h1 : ∀ a,a < K → 0 < outI inner rows a) (h2 : ∀ a,K ≤ a → outI inner rows a ≤ 0) : ∀ {n : Nat},n ≤ 22 → skRows xs inner n = rows.take (min n K)
 | 0,_=>by simp [skRows]
 | n + 1,hn=>by
  have hr:=runB_eq (xs:=xs) (inner:=inner) (rows:=rows) (i:=n) (by omega) (fun b hb'=>hb n b (by omega) hb') (h0 n) (h8 n) (he n) (n:=10) (k:=0) (Nat.zero_le _) (by have:=h8 n;have:=h0 n;unfold outI at *;omega)
  rw [List.drop_zero,show rowF inner (n:Int) + ((0:Nat):Int) = rowF inner (n:Int) by omega] at hr
  rw [skRows,skRows_eq hb h0 h8 he hK h1 h2 (n:=n) (by omega),hr]
  have ho : rowF inner (n:Int) + ((rows.getD n []).length:Int) = outI inner rows n:=rfl
  rw [ho]
  by_cases hnK : n < K
  ·rw [if_pos (h1 n hnK),show min (n + 1) K = n + 1 by omega,show min n K = n by omega,List.take_add_one,List.getElem?_eq_getElem (by omega),List.getD_eq_getElem?_getD,List.getElem?_eq_getElem (by omega)]
   rfl
  ·have:=h2 n (by omega)
   rw [if_neg (by omega),show min (n + 1) K = K by omega,show min n K = K by omega,List.append_nil]
theorem trimK_eq {n : Nat} {rows : List (List Int)} {K : Nat} (h1 : ∀ i,i < K → ¬ (n < i + 1 ∧ (rows.getD i []).length = 0)) (h2 : ∀ i,K ≤ i → n < i + 1 ∧ (rows.getD i []).length = 0) : ∀ {m : Nat},K ≤ m → trimK n rows m = K
 | 0,h=>by unfold trimK;omega
 | m + 1,h=>by
  unfold trimK
  by_cases hm : m + 1 = K
  ·rw [if_neg (h1 m (by omega))];exact hm
  ·rw [if_pos (h2 m (by omega)),trimK_eq h1 h2 (m:=m) (by omega)]
end Go.Schur
set_option maxRecDepth 100000
namespace Go.Schur
open Go Go.Ab Go.Proofs
theorem ex_K {f : Nat → Int} (h : ∀ a,f (a + 1) ≤ f a) : ∀ n : Nat,f n ≤ 0 → ∃ K,K ≤ n ∧ (∀ a,a < K → 0 < f a) ∧ ∀ a,K ≤ a → f a ≤ 0
 | 0,h0=>⟨0,Nat.le_refl _,fun a ha=>absurd ha (Nat.not_lt_zero _),fun a _=>by
  induction a with
  | zero=>exact h0
  | succ a ih=>exact Int.le_trans (h a) (ih (Nat.zero_le _))⟩
 | n + 1,h1=>by
  by_cases hn : f n ≤ 0
  ·obtain ⟨K,k1,k2,k3⟩:=ex_K h n hn
   exact ⟨K,by omega,k2,k3⟩
  ·have mono : ∀ d a,f (a + d) ≤ f a:=fun d a=>by
    induction d with
    | zero=>exact Int.le_refl _
    | succ d ih=>exact Int.le_trans (h (a + d)) ih
   refine ⟨n + 1,Nat.le_refl _,fun a ha=>?_,fun a ha=>?_⟩
   ·have:=mono (n - a) a
    rw [show a + (n - a) = n by omega] at this
    omega
   ·have:=mono (a - (n + 1)) (n + 1)
    rw [show n + 1 + (a - (n + 1)) = a by omega] at this
    omega
theorem getD_takeR {rows : List (List Int)} {K a : Nat} : (rows.take K).getD a [] = if a < K then rows.getD a [] else []:=by
 by_cases h : a < K
 ·rw [if_pos h,List.getD_eq_getElem?_getD,List.getElem?_take_of_lt h,← List.getD_eq_getElem?_getD]
 ·rw [if_neg h,getD_none (by rw [List.length_take];omega)]
theorem cut_bed {l : List Int} {R : List (List Int)} (fall : ∀ a : Nat,0 ≤ rowF l (a:Int)) (hD : DoneR l R) (hl : l.length ≤ R.length) (h20 : R.length ≤ 20) {p : Nat} (hp : p ≤ l.length) (ht : trimZ l = l.take p) (hs : shapeB (l.take p) = true) (hz : ∀ i,p ≤ i → l.getD i 0 = 0) :
  ∃ R',trimF ((l,R,()) : SkD) = (l.take p,R',()) ∧ BedR (l.take p) R' ∧ (∀ a b : Nat,atR (l.take p) R' a b = atR l R a b) ∧ (∀ xs : List Int,(∀ a b : Nat,a < 22 → b < 18 → bx xs a b = atR l R a b) → skRows xs (l.take p) 21 = R'):=by
 have hrow : ∀ a : Nat,rowF (l.take p) (a:Int) = rowF l (a:Int):=fun a=>by
  rw [rowF_nat,rowF_nat]
  by_cases ha : a < p
  ·exact getD_takeS ha
  ·rw [hz a (by omega),List.getD_eq_getElem?_getD,List.getElem?_eq_none (by rw [List.length_take];omega)];rfl
 have hlast : outI l R R.length ≤ 0:=by
  unfold outI
  rw [getD_none (Nat.le_refl _),rowF_nat,List.getD_eq_getElem?_getD,List.getElem?_eq_none hl]
  exact Int.le_refl _
 obtain ⟨K,k1,k2,k3⟩:=ex_K hD.dec R.length hlast
 have hlp : (l.take p).length = p:=by rw [List.length_take];omega
 have hpos : ∀ a,a < p → 1 ≤ rowF l (a:Int):=fun a ha=>by
  rw [← hrow,rowF_nat]
  exact (shape_mem hs _ (by rw [List.getD_eq_getElem?_getD,List.getElem?_eq_getElem (by omega)];exact List.getElem_mem _)).1
 have hpK : p ≤ K:=by
  by_cases h : p ≤ K
  ·exact h
  ·have h1:=hpos K (by omega)
   have h2:=k3 K (Nat.le_refl _)
   unfold outI at h2
   omega
 have hout : ∀ a,outI (l.take p) (R.take K) a = outI l R a:=fun a=>by
  unfold outI
  rw [hrow,getD_takeR]
  by_cases ha : a < K
  ·rw [if_pos ha]
  ·rw [if_neg ha]
   have:=k3 a (by omega)
   have:=fall a
   unfold outI at *
   show rowF l (a:Int) + ((0:Nat):Int) = _
   omega
 have hlenK : ∀ a b,b < ((R.take K).getD a []).length → a < K ∧ b < (R.getD a []).length:=fun a b hb=>by
  rw [getD_takeR] at hb
  by_cases ha : a < K
  ·rw [if_pos ha] at hb;exact ⟨ha,hb⟩
  ·rw [if_neg ha] at hb;exact absurd hb (Nat.not_lt_zero _)
 have hel : ∀ a b,a < K → el (R.take K) a b = el R a b:=fun a b ha=>by
  unfold el
  rw [getD_takeR,if_pos ha]
 have o8 : ∀ a,outI l R a ≤ 8:=fun a=>Int.le_trans (out_mono hD.dec a) hD.o8
 have hat : ∀ a b : Nat,atR (l.take p) (R.take K) a b = atR l R a b:=fun a b=>by
  have ho:=hout a
  unfold outI at ho
  unfold atR
  rw [ho,hrow]
  by_cases hq : rowF l (a:Int) ≤ (b:Int) ∧ (b:Int) < rowF l (a:Int) + ((R.getD a []).length:Int)
  ·rw [if_pos hq,if_pos hq,hel]
   by_cases ha : a < K
   ·exact ha
   ·have:=k3 a (by omega)
    have:=fall a
    unfold outI at *
    omega
  ·rw [if_neg hq,if_neg hq]
 have htk : trimK (l.take p).length R R.length = K:=trimK_eq (n:=(l.take p).length) (rows:=R) (K:=K) (fun i hi hh=>by
   have:=k2 i hi
   unfold outI at this
   rw [rowF_nat] at this
   have:=hz i (by omega)
   omega) (fun i hi=>by
   have h1:=k3 i hi
   have h2:=fall i
   unfold outI at h1
   omega) k1
 refine ⟨R.take K,?_,⟨hs,?_,?_,fun a=>?_,?_,fun a b hb=>?_⟩,hat,fun xs hb=>?_⟩
 ·unfold trimF
  simp only
  rw [ht,htk]
 ·rw [hlp,List.length_take];omega
 ·rw [List.length_take];omega
 ·rw [hout,hout];exact hD.dec a
 ·rw [hout];exact hD.o8
 ·obtain ⟨ha,hb'⟩:=hlenK a b hb
  rw [hel a b ha]
  exact hD.ent a b hb'
 ·have:=skRows_eq (xs:=xs) (inner:=l.take p) (rows:=R.take K) (K:=K) (fun a b ha hb'=>by rw [hat];exact hb a b ha hb') (fun a=>by rw [hrow];exact fall a) (fun a=>by rw [hout];exact o8 a) (fun a b hb'=>by
   obtain ⟨ha,hb2⟩:=hlenK a b hb'
   rw [hel a b ha];exact (hD.ent a b hb2).1) (by rw [List.length_take];omega) (fun a ha=>by rw [hout];exact k2 a ha) (fun a ha=>by rw [hout];exact k3 a ha) (n:=21) (by omega)
  rw [this,show min 21 K = K by omega,List.take_take,Nat.min_self]
theorem slide_out {l : List Int} {rows : List (List Int)} (h : BedR l rows) {row : Int} (hc : crnB l row = true) {xs : List Int} (hx : xs.length = 397) (hb : ∀ a b : Nat,a < 22 → b < 18 → bx xs a b = atR l rows a b) :
  ∃ R',sldR ((l,rows,()) : SkD) row = ((decI l row).take (lenP row (l.length:Int) l).toNat,R',()) ∧ BedR ((decI l row).take (lenP row (l.length:Int) l).toNat) R' ∧
   (slF (30 - (row + (l.getD row.toNat 0 - 1))).toNat xs row (l.getD row.toNat 0 - 1)).length = 397 ∧
   (∀ a b : Nat,a < 22 → b < 18 → bx (slF (30 - (row + (l.getD row.toNat 0 - 1))).toNat xs row (l.getD row.toNat 0 - 1)) a b = atR ((decI l row).take (lenP row (l.length:Int) l).toNat) R' a b) ∧
   skRows (slF (30 - (row + (l.getD row.toNat 0 - 1))).toNat xs row (l.getD row.toNat 0 - 1)) ((decI l row).take (lenP row (l.length:Int) l).toNat) 21 = R':=by
 obtain ⟨c0,c1,c2,c3⟩:=crn_pos h.shp hc
 obtain ⟨hH,hat⟩:=hole_of h hc
 obtain ⟨t1,t2⟩:=trim_dec h hc
 have hl8:=(shapeB_iff.1 h.shp).1
 have hlen:=h.len
 have er : ((row.toNat:Nat):Int) = row:=Int.toNat_of_nonneg c0
 have ev : (((l.getD row.toNat 0 - 1).toNat:Nat):Int) = l.getD row.toNat 0 - 1:=Int.toNat_of_nonneg (by omega)
 have hS:=slide_eq (inner:=decI l row) (30 - (row + (l.getD row.toNat 0 - 1))).toNat 40 (holeI rows row) xs row.toNat (l.getD row.toNat 0 - 1).toNat (by omega) (by omega) hH hx (fun a b ha hb'=>by rw [hat];exact hb a b ha hb')
 rw [er,ev] at hS
 obtain ⟨s1,s2,s3,s4⟩:=hS
 have hdl : (decI l row).length = l.length:=by unfold decI;rw [List.length_set]
 have hhl : (holeI rows row).length = rows.length:=by unfold holeI;rw [List.length_set]
 have hpl : (lenP row (l.length:Int) l).toNat ≤ (decI l row).length:=by rw [hdl];unfold lenP;split <;> omega
 have hz : ∀ i,(lenP row (l.length:Int) l).toNat ≤ i → (decI l row).getD i 0 = 0:=fun i hi=>by
  obtain ⟨m,hm⟩:=trimZ_spec (o:=decI l row)
  rw [t1] at hm
  rw [hm,List.getD_eq_getElem?_getD,List.getElem?_append_right (by rw [List.length_take];omega),List.getElem?_replicate]
  split <;> rfl
 obtain ⟨R',r1,r2,r3,r4⟩:=cut_bed (l:=decI l row) (R:=slR (decI l row) 40 (holeI rows row) row.toNat (l.getD row.toNat 0 - 1)) (fun a=>(hH.fall a).1) s1 (by rw [s2,hdl,hhl];exact hlen) (by rw [s2,hhl];exact h.l20) hpl t1 t2 hz
 exact ⟨R',r1,r2,s3,fun a b ha hb'=>by rw [r3];exact s4 a b ha hb',r4 _ s4⟩
end Go.Schur
set_option maxRecDepth 100000
namespace Go.Schur
open Go Go.Ab Go.Proofs
theorem bed_ok {l : List Int} {rows : List (List Int)} (h : SkOk l rows) : BedR l rows:=by
 have hlen:=h.len
 refine ⟨h.shp,h.len,h.l20,fun i=>?_,?_,fun i j hj=>?_⟩
 ·by_cases hi : i + 1 < rows.length
  ·have:=(h.cnd (i + 1) hi).le
   rwa [if_neg (by omega),show i + 1 - 1 = i by omega] at this
  ·have h1:=(shape_row h.shp i).1
   have h2 : rowF l ((i + 1:Nat):Int) = 0:=by rw [rowF_nat,List.getD_eq_getElem?_getD,List.getElem?_eq_none (by omega)];rfl
   unfold outI
   rw [h2,getD_none (i:=i + 1) (by omega)]
   show (0:Int) + ((0:Nat):Int) ≤ _
   omega
 ·by_cases h0 : 0 < rows.length
  ·exact out_le h h0
  ·unfold outI
   rw [rowF_nat,List.getD_eq_getElem?_getD,List.getElem?_eq_none (by omega),getD_none (by omega)]
   exact (by omega : (0:Int) + ((0:Nat):Int) ≤ 8)
 ·exact (h.cnd i (row_in (by omega))).ent j hj
theorem BedR.done {l : List Int} {rows : List (List Int)} (h : BedR l rows) : DoneR l rows:=⟨h.dec,h.o8,h.ent⟩
theorem trim_bed {l : List Int} {rows : List (List Int)} (h : BedR l rows) : ∃ R',trimF ((l,rows,()) : SkD) = (l,R',()) ∧ BedR l R' ∧ (∀ a b : Nat,atR l R' a b = atR l rows a b) ∧ (∀ xs : List Int,(∀ a b : Nat,a < 22 → b < 18 → bx xs a b = atR l rows a b) → skRows xs l 21 = R'):=by
 have ht : trimZ l = l.take l.length:=trim_take (Nat.le_refl _) (fun i hi=>by rw [List.getD_eq_getElem?_getD,List.getElem?_eq_none hi];rfl) (fun h0=>by
  have:=shape_mem h.shp (l.getD (l.length - 1) 0) (by rw [List.getD_eq_getElem?_getD,List.getElem?_eq_getElem (by omega)];exact List.getElem_mem _)
  omega)
 have:=cut_bed (l:=l) (R:=rows) (fun a=>(shape_row h.shp a).1) h.done h.len h.l20 (p:=l.length) (Nat.le_refl _) ht (by rw [List.take_length];exact h.shp) (fun i hi=>by rw [List.getD_eq_getElem?_getD,List.getElem?_eq_none hi];rfl)
 rw [List.take_length] at this
 exact this
theorem crn_last {l : List Int} (hs : shapeB l = true) (h0 : 0 < l.length) : crnB l ((l.length:Int) - 1) = true:=by
 have h1:=shape_mem hs (l.getD (l.length - 1) 0) (by rw [List.getD_eq_getElem?_getD,List.getElem?_eq_getElem (by omega)];exact List.getElem_mem _)
 unfold crnB
 rw [decide_eq_true_eq]
 have e1 : (l.length:Int) - 1 + 1 = ((l.length:Nat):Int):=by omega
 have e2 : (l.length:Int) - 1 = ((l.length - 1:Nat):Int):=by omega
 rw [e1,e2,rowF_nat,rowF_nat,List.getD_eq_getElem?_getD (i:=l.length),List.getElem?_eq_none (Nat.le_refl _)]
 refine ⟨by omega,by omega,?_⟩
 show (0:Int) < _
 omega
set_option maxHeartbeats 2000000 in
theorem str_eq : ∀ (m:Nat) (l:List Int) (rows:List (List Int)) (xs inner:List Int) (n:Nat),n ≤ inner.length → l = inner.take n → BedR l rows → xs.length = 397 → (∀ a b : Nat,a < 22 → b < 18 → bx xs a b = atR l rows a b) → skRows xs l 21 = rows → l.sum ≤ (m:Int) →
  (skwB (strB m (xs,(n:Int),inner))).2.1 = (strG m ((l,rows,()) : SkD)).2.1:=by
 intro m
 have base : ∀ (m:Nat) (rows:List (List Int)) (xs inner:List Int),skRows xs [] 21 = rows → (skwB (strB m (xs,((0:Nat):Int),inner))).2.1 = (strG m ((([]:List Int),rows,()) : SkD)).2.1:=fun m rows xs inner hs=>by
  have e1 : strB m (xs,((0:Nat):Int),inner) = (xs,((0:Nat):Int),inner):=by
   cases m with
   | zero=>rfl
   | succ m=>unfold strB;rw [if_pos (by simp)]
  have e2 : strG m ((([]:List Int),rows,()) : SkD) = ([],rows,()):=by
   cases m with
   | zero=>rfl
   | succ m=>rw [strG,if_pos (show ((([]:List Int),rows,()) : SkD).1.length = 0 from rfl)]
  rw [e1,e2]
  show skRows xs (inner.take 0) 21 = rows
  rw [List.take_zero];exact hs
 induction m with
 | zero =>
  intro l rows xs inner n hn hl hB hx hb hs hsum
  cases n with
  | zero =>
   rw [List.take_zero] at hl;subst hl
   exact base _ _ _ _ hs
  | succ k =>
   have hll : l.length = k + 1:=by rw [hl,List.length_take];omega
   have:=len_le_sum (t:=l) fun x hx=>(shape_mem hB.shp x hx).1
   omega
 | succ m ih =>
  intro l rows xs inner n hn hl hB hx hb hs hsum
  cases n with
  | zero =>
   rw [List.take_zero] at hl;subst hl
   exact base _ _ _ _ hs
  | succ k =>
   have hll : l.length = k + 1:=by rw [hl,List.length_take];omega
   have hc:=crn_last hB.shp (by omega)
   have ek : (l.length:Int) - 1 = (k:Int):=by omega
   rw [ek] at hc
   obtain ⟨c0,c1,c2,c3⟩:=crn_pos hB.shp hc
   rw [Int.toNat_natCast] at c2 c3
   obtain ⟨R',r1,r2,r3,r4,r5⟩:=slide_out hB hc hx hb
   have eg : inner.getD k 0 = l.getD k 0:=by rw [hl,getD_takeS (by omega)]
   have eG : strG (m + 1) ((l,rows,()) : SkD) = strG m (sldR ((l,rows,()) : SkD) (k:Int)):=by
    rw [strG,if_neg (show ¬ ((l,rows,()) : SkD).1.length = 0 by show ¬ l.length = 0;omega)]
    show strG m (sldR _ ((l.length:Int) - 1)) = _
    rw [ek]
   have eB : strB (m + 1) (xs,((k + 1:Nat):Int),inner) = strB m (sldB xs ((k + 1:Nat):Int) inner (k:Int)):=by
    have hn0 : ¬ (((k + 1:Nat):Int) ≤ 0):=by omega
    have ek2 : ((k + 1:Nat):Int) - 1 = (k:Int):=by omega
    rw [strB]
    rw [if_neg hn0,ek2]
   rw [eB,eG,r1]
   have elen : lenP (k:Int) (l.length:Int) l = lenP (k:Int) ((k + 1:Nat):Int) inner:=by
    unfold lenP
    rw [Int.toNat_natCast,eg,hll]
   have epn : ∃ p : Nat,lenP (k:Int) ((k + 1:Nat):Int) inner = (p:Int) ∧ p ≤ k + 1 ∧ (p = k + 1 ∨ p = k):=by
    unfold lenP
    by_cases h1 : inner.getD (k:Int).toNat 0 = 1
    ·rw [if_pos h1];exact ⟨k,rfl,by omega,.inr rfl⟩
    ·rw [if_neg h1];exact ⟨k + 1,rfl,by omega,.inl rfl⟩
   obtain ⟨p,ep,hp,_⟩:=epn
   have eS : sldB xs ((k + 1:Nat):Int) inner (k:Int) = (slF (30 - ((k:Int) + (l.getD k 0 - 1))).toNat xs (k:Int) (l.getD k 0 - 1),(p:Int),inner.set k (l.getD k 0 - 1)):=by
    unfold sldB
    rw [ep,Int.toNat_natCast,eg]
   rw [eS]
   rw [elen,ep,Int.toNat_natCast] at r2 r4 r5
   rw [Int.toNat_natCast] at r3 r4 r5
   have edec : (decI l (k:Int)).take p = (inner.set k (l.getD k 0 - 1)).take p:=by
    unfold decI
    rw [Int.toNat_natCast]
    refine List.ext_getElem (by simp [hll];omega) fun i h1 h2=>?_
    have hi : i < p:=by rw [List.length_take] at h1;omega
    rw [List.getElem_take,List.getElem_take,List.getElem_set,List.getElem_set]
    split
    ·rfl
    ·simp only [hl,List.getElem_take]
   rw [elen,ep,Int.toNat_natCast]
   refine ih _ _ _ _ p (by rw [List.length_set];omega) edec r2 r3 r4 r5 ?_
   have h1:=sum_takeL (l:=decI l (k:Int)) (p:=p) fun x hx=>by
    unfold decI at hx
    rw [Int.toNat_natCast] at hx
    rcases List.mem_or_eq_of_mem_set hx with h | hq
    ·have:=shape_mem hB.shp x h;omega
    ·rw [hq];omega
   have h2:=sum_setS (l:=l) (r:=k) (v:=l.getD k 0 - 1) (by omega)
   unfold decI at h1 ⊢
   rw [Int.toNat_natCast] at h1 ⊢
   omega
end Go.Schur
set_option maxRecDepth 100000
namespace Go.Schur
open Go Go.Ab Go.Proofs
theorem ex_box (l:List Int) (rows:List (List Int)) : ∃ xs : List Int,xs.length = 397 ∧ ∀ a b : Nat,a < 22 → b < 18 → bx xs a b = atR l rows a b:=by
 refine ⟨(List.range 397).map fun t=>atR l rows (t / 18) ((t % 18:Nat):Int),by simp,fun a b ha hb=>?_⟩
 unfold bx
 have e : ((a:Int) * 18 + (b:Int)).toNat = a * 18 + b:=by omega
 rw [e,List.getD_eq_getElem?_getD,List.getElem?_eq_getElem (by simp;omega)]
 simp only [List.getElem_map,List.getElem_range,Option.getD_some]
 rw [show (a * 18 + b) / 18 = a by omega,show (a * 18 + b) % 18 = b by omega]
theorem BedR.ok {l : List Int} {rows : List (List Int)} (h : BedR l rows) : okRs ((l,rows,()) : SkD):=by
 have h8:=(shapeB_iff.1 h.shp).1
 have:=h.l20
 refine ⟨by show l.length ≤ 1000;omega,by show rows.length ≤ 1000;omega,fun r hr=>?_⟩
 obtain ⟨i,hi,rfl⟩:=List.getElem_of_mem hr
 have ho:=Int.le_trans (out_mono h.dec i) h.o8
 have h0:=(shape_row h.shp i).1
 have hi' : i < rows.length:=hi
 unfold outI at ho
 rw [List.getD_eq_getElem?_getD,List.getElem?_eq_getElem hi'] at ho
 simp only [Option.getD_some] at ho
 show (rows[i]).length ≤ 1000
 omega
theorem slide_bed {l : List Int} {rows : List (List Int)} (h : BedR l rows) {row : Int} (hc : crnB l row = true) : ∃ l' R',sldR ((l,rows,()) : SkD) row = (l',R',()) ∧ BedR l' R' ∧ l'.sum ≤ l.sum - 1:=by
 obtain ⟨xs,hx,hb⟩:=ex_box l rows
 obtain ⟨R',r1,r2,_⟩:=slide_out h hc hx hb
 obtain ⟨c0,c1,c2,c3⟩:=crn_pos h.shp hc
 refine ⟨_,R',r1,r2,?_⟩
 have h1:=sum_takeL (l:=decI l row) (p:=(lenP row (l.length:Int) l).toNat) fun x hx=>by
  unfold decI at hx
  rcases List.mem_or_eq_of_mem_set hx with h' | hq
  ·have:=shape_mem h.shp x h';omega
  ·rw [hq];omega
 have h2:=sum_setS (l:=l) (r:=row.toNat) (v:=l.getD row.toNat 0 - 1) (by omega)
 unfold decI at h1 ⊢
 omega
noncomputable def st48 (d1 : SkD) : Option (Lp SkD (List (List Int) × Unit)):=bif ilt (0) (↑(List.length d1.1)) then gd (skOkB ((d1.1,d1.2.1,()) : SkD) ∧ crnB d1.1 (wr .i64 ((↑(List.length d1.1)) - (1))) = true) (some (Lp.go (((sldR ((d1.1,d1.2.1,()) : SkD) (wr .i64 ((↑(List.length d1.1)) - (1)))).1,(sldR ((d1.1,d1.2.1,()) : SkD) (wr .i64 ((↑(List.length d1.1)) - (1)))).2.1,()) : SkD))) else some (Lp.out ((d1.2.1,()) : List (List Int) × Unit))
theorem loop48 : ∀ (m:Nat) (l:List Int) (rows:List (List Int)),BedR l rows → l.sum ≤ (m:Int) → whileO st48 ((l,rows,()) : SkD) = some ((strG m ((l,rows,()) : SkD)).2.1,()):=by
 have base : ∀ (m:Nat) (l:List Int) (rows:List (List Int)),l.length = 0 → whileO st48 ((l,rows,()) : SkD) = some ((strG m ((l,rows,()) : SkD)).2.1,()):=fun m l rows h0=>by
  have e2 : strG m ((l,rows,()) : SkD) = (l,rows,()):=by
   cases m with
   | zero=>rfl
   | succ m=>rw [strG,if_pos (show ((l,rows,()) : SkD).1.length = 0 from h0)]
  rw [e2]
  refine whileO_out ?_
  unfold st48
  rw [cond_f (ilt_false.2 (show ((l.length:Nat):Int) ≤ 0 by omega))]
 intro m
 induction m with
 | zero =>
  intro l rows h hs
  have:=len_le_sum (t:=l) fun x hx=>(shape_mem h.shp x hx).1
  exact base _ _ _ (by omega)
 | succ m ih =>
  intro l rows h hs
  by_cases h0 : l.length = 0
  ·exact base _ _ _ h0
  ·have h8:=(shapeB_iff.1 h.shp).1
   have w : wr .i64 (((l.length:Nat):Int) - 1) = (l.length:Int) - 1:=wr_id (by omega)
   have hc:=crn_last h.shp (by omega)
   obtain ⟨l',R',r1,r2,r3⟩:=slide_bed h hc
   have eG : strG (m + 1) ((l,rows,()) : SkD) = strG m ((l',R',()) : SkD):=by
    rw [strG,if_neg (show ¬ ((l,rows,()) : SkD).1.length = 0 from h0),← r1]
   rw [eG]
   refine (whileO_go (s':=((l',R',()) : SkD)) ?_).trans (ih l' R' r2 (by omega))
   unfold st48
   simp only [w,r1]
   rw [cond_t (ilt_iff.2 (by omega)),gd_pos ⟨h,hc⟩]
theorem goal48 : con48.goal Try.prog (spOf [con92,con50]) g48_sh [] lm30:=by
 have e : (∀ (s : SkD),skOkB s → g48 s = some ((strG 40 (trimF s)).2.1,())) = con48.goal Try.prog (spOf [con92,con50]) g48_sh [] lm30:=by kernel_rfl
 rw [← e]
 intro s h
 obtain ⟨R',t1,t2,_⟩:=trim_bed (l:=s.1) (rows:=s.2.1) h
 have es : ((s.1,s.2.1,()) : SkD) = s:=rfl
 rw [es] at t1
 unfold g48
 rw [es,gd_pos (BedR.ok h),t1]
 exact loop48 40 s.1 R' t2 (by have:=(shapeB_iff.1 t2.shp).2.2;omega)
end Go.Schur
set_option maxRecDepth 100000
namespace Go.Schur
open Go Go.Ab Go.Proofs
theorem trimK_le {p : Nat} {rows : List (List Int)} : ∀ {k : Nat},trimK p rows k ≤ k
 | 0=>by unfold trimK;exact Nat.le_refl _
 | k + 1=>by
  unfold trimK
  have:=trimK_le (p:=p) (rows:=rows) (k:=k)
  split <;> omega
theorem trimK_take {p q : Nat} {rows : List (List Int)} : ∀ {k : Nat},k ≤ q → trimK p (rows.take q) k = trimK p rows k
 | 0,_=>rfl
 | k + 1,h=>by
  unfold trimK
  rw [getD_takeR,if_pos (show k < q by omega),trimK_take (k:=k) (by omega)]
theorem trim_drop {o : List Int} {n : Nat} (hn : o.length = n + 1) (h0 : o.getD n 0 = 0) : trimZ (o.take n) = trimZ o:=by
 obtain ⟨m,hm⟩:=trimZ_spec (o:=o.take n)
 have hlen:=congrArg List.length hm
 rw [List.length_append,List.length_replicate,List.length_take] at hlen
 have hpre : ∀ i,i < (trimZ (o.take n)).length → (trimZ (o.take n)).getD i 0 = o.getD i 0:=fun i hi=>by
  rw [← getD_takeS (l:=o) (p:=n) (by omega)]
  conv=>rhs;rw [hm]
  rw [List.getD_eq_getElem?_getD,List.getD_eq_getElem?_getD,List.getElem?_append_left hi]
 have:=trim_take (o:=o) (p:=(trimZ (o.take n)).length) (by omega) (fun i hi=>by
  by_cases h1 : i < n
  ·rw [← getD_takeS h1,hm,List.getD_eq_getElem?_getD,List.getElem?_append_right hi,List.getElem?_replicate]
   split <;> rfl
  ·by_cases h2 : i = n
   ·rw [h2];exact h0
   ·rw [List.getD_eq_getElem?_getD,List.getElem?_eq_none (by omega)];rfl) (fun hp=>by
  rw [← hpre _ (by omega)]
  exact trimZ_last hp)
 rw [this]
 refine List.ext_getElem (by rw [List.length_take];omega) fun i h1 h2=>?_
 have:=hpre i h1
 rw [List.getD_eq_getElem?_getD,List.getD_eq_getElem?_getD,List.getElem?_eq_getElem h1,List.getElem?_eq_getElem (by omega)] at this
 rw [List.getElem_take]
 exact this
theorem trim_id {o : List Int} (h : 0 < o.length → o.getD (o.length - 1) 0 ≠ 0) : trimZ o = o:=by
 have:=trim_take (o:=o) (p:=o.length) (Nat.le_refl _) (fun i hi=>by rw [List.getD_eq_getElem?_getD,List.getElem?_eq_none hi];rfl) h
 rwa [List.take_length] at this
abbrev D92:=List Int × List (List Int) × List Int × List (List Int) × Unit
abbrev D92b:=Int × List Int × List (List Int) × List Int × List (List Int) × Unit
theorem goal92 : con92.goal Try.prog (spOf []) g92_sh [] lm30:=by
 have e : (∀ (s : SkD),okRs s → g92 s = some (trimF s,())) = con92.goal Try.prog (spOf []) g92_sh [] lm30:=by kernel_rfl
 rw [← e]
 rintro s ⟨h1,h2,h3⟩
 unfold g92
 refine whileO_rec (fun d1 : D92=>d1.1.length ≤ 1000 ∧ d1.2.1.length ≤ 1000) (fun d1 : D92=>d1.1.length) (fun d1 : D92=>(trimF ((d1.1,d1.2.1,()) : SkD),())) ?_ _ ⟨h1,h2⟩
 rintro ⟨o,rows,a3,a4,_⟩ ⟨g1,g2⟩
 dsimp only at g1 g2 ⊢
 by_cases hz : 0 < o.length ∧ o.getD (o.length - 1) 0 = 0
 ·refine .inr ⟨(o.take (o.length - 1),rows,a3,a4,()),?_,⟨by rw [List.length_take];omega,g2⟩,by show (o.take (o.length - 1)).length < o.length;rw [List.length_take];omega,?_⟩
  ·have w : wr .i64 ((o.length:Int) - 1) = ((o.length - 1:Nat):Int):=by rw [wr_id (by omega)];omega
   simp only [w,Int.toNat_natCast,ilt_iff.2 (show (0:Int) < (o.length:Int) by omega),hz.2,ieq_iff.2,cond_true,true_implies,true_and,gd_true]
   rw [gd_pos (by omega),gd_pos (by omega)]
  ·show (trimF ((o.take (o.length - 1),rows,()) : SkD),()) = (trimF ((o,rows,()) : SkD),())
   have:=trim_drop (o:=o) (n:=o.length - 1) (by omega) hz.2
   unfold trimF
   simp only [this]
 ·refine .inl ?_
  have hid : trimZ o = o:=trim_id fun h0 he=>hz ⟨h0,he⟩
  have hinner : ∀ (step : D92b → Option (Lp D92b (Lp D92 (SkD × Unit)))),(∀ d2 : D92b,d2.1 = (d2.2.2.1.length:Int) ∧ d2.2.2.1.length ≤ 1000 ∧ d2.2.1 = o → step d2 = some (.out (.out ((d2.2.1,d2.2.2.1.take (trimK d2.2.1.length d2.2.2.1 d2.2.2.1.length),()),()))) ∨ ∃ s',step d2 = some (.go s') ∧ (s'.1 = (s'.2.2.1.length:Int) ∧ s'.2.2.1.length ≤ 1000 ∧ s'.2.1 = o) ∧ s'.2.2.1.length < d2.2.2.1.length ∧ ((.out ((s'.2.1,s'.2.2.1.take (trimK s'.2.1.length s'.2.2.1 s'.2.2.1.length),()),()) : Lp D92 (SkD × Unit)) = .out ((d2.2.1,d2.2.2.1.take (trimK d2.2.1.length d2.2.2.1 d2.2.2.1.length),()),()))) →
    whileO step (((rows.length:Int),o,rows,a3,a4,()) : D92b) = some (.out (trimF ((o,rows,()) : SkD),())):=fun step hst=>by
   have:=whileO_rec (step:=step) (fun d2 : D92b=>d2.1 = (d2.2.2.1.length:Int) ∧ d2.2.2.1.length ≤ 1000 ∧ d2.2.1 = o) (fun d2 : D92b=>d2.2.2.1.length) (fun d2 : D92b=>.out ((d2.2.1,d2.2.2.1.take (trimK d2.2.1.length d2.2.2.1 d2.2.2.1.length),()),())) hst (((rows.length:Int),o,rows,a3,a4,()) : D92b) ⟨rfl,g2,rfl⟩
   rw [this]
   unfold trimF
   simp only [hid]
  have hc : (bif ilt (0:Int) (o.length:Int) then ieq (o.getD (wr .i64 ((o.length:Int) - 1)).toNat 0) 0 else false) = false:=by
   by_cases h0 : 0 < o.length
   ·have w : wr .i64 ((o.length:Int) - 1) = ((o.length - 1:Nat):Int):=by rw [wr_id (by omega)];omega
    rw [cond_t (ilt_iff.2 (by omega)),w,Int.toNat_natCast,ieq_false]
    exact fun he=>hz ⟨h0,he⟩
   ·rw [cond_f (ilt_false.2 (by omega))]
  rw [hc]
  simp only [cond_false]
  have hg : ilt (0:Int) (o.length:Int) = true → ilt (0:Int) (o.length:Int) = true ∧ ilt (0:Int) (o.length:Int) = true ∧ 0 ≤ wr .i64 ((o.length:Int) - 1) ∧ wr .i64 ((o.length:Int) - 1) < (o.length:Int):=fun hh=>by
   have h0:=ilt_iff.1 hh
   rw [wr_id (by omega)]
   exact ⟨hh,hh,by omega,by omega⟩
  rw [gd_pos (fun h=>h),gd_pos (fun h=>h),gd_pos (fun h=>h),gd_pos (fun h=>h),gd_pos hg,gd_pos (fun h=>h),gd_pos (fun h=>h),gd_pos (fun h=>h)]
  refine hinner _ ?_
  rintro ⟨n,o',R,b3,b4,_⟩ ⟨q1,q2,q3⟩
  dsimp only at q1 q2 q3 ⊢
  subst q3
  subst q1
  have hg2 : ilt (o'.length:Int) (R.length:Int) = true → ilt (o'.length:Int) (R.length:Int) = true ∧ ilt (o'.length:Int) (R.length:Int) = true ∧ 0 ≤ wr .i64 ((R.length:Int) - 1) ∧ wr .i64 ((R.length:Int) - 1) < (R.length:Int):=fun hh=>by
   have h0:=ilt_iff.1 hh
   rw [wr_id (by omega)]
   exact ⟨hh,hh,by omega,by omega⟩
  rw [gd_pos (fun h=>h),gd_pos (fun h=>h),gd_pos hg2,gd_pos (fun h=>h),gd_pos (fun h=>h),gd_pos (fun h=>h),gd_pos (fun h=>h)]
  by_cases hy : o'.length < R.length ∧ (R.getD (R.length - 1) []).length = 0
  ·have w : wr .i64 ((R.length:Int) - 1) = ((R.length - 1:Nat):Int):=by rw [wr_id (by omega)];omega
   have hl : (R.take (R.length - 1)).length = R.length - 1:=by rw [List.length_take];omega
   refine .inr ⟨(((R.take (R.length - 1)).length:Int),o',R.take (R.length - 1),b3,b4,()),?_,⟨rfl,by show (R.take (R.length - 1)).length ≤ 1000;omega,rfl⟩,by show (R.take (R.length - 1)).length < R.length;omega,?_⟩
   ·simp only [w,Int.toNat_natCast,ilt_iff.2 (show (o'.length:Int) < (R.length:Int) by omega),cond_true]
    rw [cond_t (ieq_iff.2 (by omega)),gd_pos (by omega)]
   ·show Lp.out ((o',(R.take (R.length - 1)).take (trimK o'.length (R.take (R.length - 1)) (R.take (R.length - 1)).length),()),()) = _
    have eK : trimK o'.length R R.length = trimK o'.length R (R.length - 1):=by
     obtain ⟨m,hm⟩ : ∃ m,R.length = m + 1:=⟨R.length - 1,by omega⟩
     rw [hm] at hy ⊢
     simp only [Nat.add_sub_cancel] at hy ⊢
     conv=>lhs;unfold trimK
     rw [if_pos hy]
    have:=trimK_le (p:=o'.length) (rows:=R) (k:=R.length - 1)
    rw [hl,trimK_take (Nat.le_refl _),eK,List.take_take,Nat.min_eq_left this]
  ·refine .inl ?_
   have eK : trimK o'.length R R.length = R.length:=by
    cases hm : R.length with
    | zero=>rfl
    | succ m =>
     rw [hm] at hy
     simp only [Nat.add_sub_cancel] at hy
     unfold trimK
     rw [if_neg hy]
   rw [eK,List.take_length]
   have hc2 : (bif ilt (o'.length:Int) (R.length:Int) then ieq ((R.getD (wr .i64 ((R.length:Int) - 1)).toNat []).length:Int) 0 else false) = false:=by
    by_cases h0 : o'.length < R.length
    ·have w : wr .i64 ((R.length:Int) - 1) = ((R.length - 1:Nat):Int):=by rw [wr_id (by omega)];omega
     rw [cond_t (ilt_iff.2 (by omega)),w,Int.toNat_natCast,ieq_false]
     exact fun he=>hy ⟨h0,by omega⟩
    ·rw [cond_f (ilt_false.2 (by omega))]
   rw [hc2]
   rfl
theorem ok92 : con92.Ok Try.prog:=Con.of_goal mixed okN con92 goal92
end Go.Schur
set_option maxRecDepth 100000
namespace Go.Schur
open Go Go.Ab Go.Proofs
theorem HoleR.len8 {l : List Int} {rows : List (List Int)} {i j : Nat} (h : HoleR l rows i j) (a:Nat) : (rows.getD a []).length ≤ 8:=by
 have h1:=out_mono h.dec a
 have h2:=h.o8
 have h3:=(h.fall a).1
 unfold outI at h1 h2
 omega
theorem gd_eq {p : Prop} {α : Type} {x y : Option α} (h : p) (e : x = y) : gd p x = y:=by rw [gd_pos h,e]
set_option maxHeartbeats 4000000 in
theorem step50 {l : List Int} {R : List (List Int)} {i j : Nat} (h : HoleR l R i j) (hl8 : l.length ≤ 20) (A:List Int) (B:List (List Int)) : g50_l0 (((l.length:Nat):Int),((R.length:Nat):Int),(i:Int),(j:Int),A,B,l,R,()) =
  if atX l R i ((j:Int) + 1) = 0 ∧ atX l R (i + 1) (j:Int) = 0 then some (.out (((trimF (l,R.set i ((R.getD i []).take ((j:Int) - rowF l (i:Int)).toNat),())).1,(trimF (l,R.set i ((R.getD i []).take ((j:Int) - rowF l (i:Int)).toNat),())).2.1,()),()))
  else if 0 < atX l R (i + 1) (j:Int) ∧ (atX l R i ((j:Int) + 1) = 0 ∨ atX l R (i + 1) (j:Int) ≤ atX l R i ((j:Int) + 1)) then some (.go (((l.length:Nat):Int),((R.length:Nat):Int),((i + 1:Nat):Int),(j:Int),A,B,l,R.set i ((R.getD i []).set ((j:Int) - rowF l (i:Int)).toNat (atX l R (i + 1) (j:Int))),()))
  else some (.go (((l.length:Nat):Int),((R.length:Nat):Int),(i:Int),((j + 1:Nat):Int),A,B,l,R.set i ((R.getD i []).set ((j:Int) - rowF l (i:Int)).toNat (atX l R i ((j:Int) + 1))),())):=by
 have b1:=h.lt
 have b2:=h.l20
 have b3:=h.len8 i
 have b4:=h.len8 (i + 1)
 have b5:=h.lo
 have b6:=h.hi
 have b7:=h.fall i
 have hok : ∀ r : List Int,r.length ≤ 8 → okRs (((l,R.set i r,())) : SkD):=fun r hr=>⟨by show l.length ≤ 1000;omega,by show (R.set i r).length ≤ 1000;rw [List.length_set];omega,fun x hx=>by
  rcases List.mem_or_eq_of_mem_set hx with h' | rfl
  ·obtain ⟨a,ha,rfl⟩:=List.getElem_of_mem h'
   have:=h.len8 a
   rw [List.getD_eq_getElem?_getD,List.getElem?_eq_getElem ha,Option.getD_some] at this
   show (R[a]).length ≤ 1000
   omega
  ·show x.length ≤ 1000;omega⟩
 unfold outI at b6
 have o1:=out_mono h.dec i
 have o2:=h.o8
 unfold outI at o1 o2
 have b8:=(h.fall (i + 1)).1
 have er : rowF l ((i:Int) + 1) = rowF l ((i + 1:Nat):Int):=rfl
 obtain ⟨c,hc⟩ : ∃ c : Nat,(j:Int) - rowF l (i:Int) = (c:Int):=⟨((j:Int) - rowF l (i:Int)).toNat,by omega⟩
 have wj : wr .i64 ((j:Int) + 1) = (j:Int) + 1:=wr_id (by omega)
 have wi : wr .i64 ((i:Int) + 1) = (i:Int) + 1:=wr_id (by omega)
 have w0 : wr .i64 ((j:Int) + 1 - rowF l (i:Int)) = ((c + 1:Nat):Int):=by rw [wr_id (by omega)];omega
 have wh : wr .i64 ((j:Int) - rowF l (i:Int)) = (c:Int):=by rw [wr_id (by omega)];omega
 have w2 : wr .i64 ((j:Int) - rowF l ((i:Int) + 1)) = (j:Int) - rowF l ((i:Int) + 1):=wr_id (by omega)
 have e1 : atX l R i ((j:Int) + 1) = if c + 1 < (R.getD i []).length then (R.getD i []).getD (c + 1) 0 else 0:=by
  unfold atX
  rw [show (j:Int) + 1 - rowF l (i:Int) = ((c + 1:Nat):Int) by omega]
  by_cases hq : c + 1 < (R.getD i []).length
  ·rw [if_pos hq,if_pos (by omega)];rfl
  ·rw [if_neg hq,if_neg (by omega)]
 have e2 : atX l R (i + 1) (j:Int) = if 0 ≤ (j:Int) - rowF l ((i:Int) + 1) ∧ (j:Int) - rowF l ((i:Int) + 1) < ((R.getD (i + 1) []).length:Int) then (R.getD (i + 1) []).getD ((j:Int) - rowF l ((i:Int) + 1)).toNat 0 else 0:=by
  unfold atX el
  rw [show ((i + 1:Nat):Int) = (i:Int) + 1 by omega]
 have ti : ((i:Int) + 1).toNat = i + 1:=by omega
 rw [e1,e2]
 have hc2 : (j:Int) - rowF l ((i:Int) + 1) ≤ 8:=by omega
 have k0 : g50_c0 (((l.length:Nat):Int),((R.length:Nat):Int),(i:Int),(j:Int),A,B,l,R,()) = ((c + 1:Nat):Int):=by
  unfold g50_c0
  simp only [Int.toNat_natCast,Nat.zero_add,List.drop_zero,List.take_length,wj,w0]
 have k1 : g50_c1 (((l.length:Nat):Int),((R.length:Nat):Int),(i:Int),(j:Int),A,B,l,R,()) = (R.getD i []).getD (c + 1) 0:=by
  unfold g50_c1
  simp only [k0,Int.toNat_natCast,Nat.zero_add]
 have k2 : g50_c2 (((l.length:Nat):Int),((R.length:Nat):Int),(i:Int),(j:Int),A,B,l,R,()) = (j:Int) - rowF l ((i:Int) + 1):=by
  unfold g50_c2
  simp only [Int.toNat_natCast,Nat.zero_add,List.drop_zero,List.take_length,wi,w2]
 have k3 : g50_c3 (((l.length:Nat):Int),((R.length:Nat):Int),(i:Int),(j:Int),A,B,l,R,()) = ilt ((j:Int) - rowF l ((i:Int) + 1)) ((R.getD (i + 1) []).length:Int):=by
  unfold g50_c3
  simp only [k2,wi,ti,Nat.zero_add]
 have k4 : g50_c4 (((l.length:Nat):Int),((R.length:Nat):Int),(i:Int),(j:Int),A,B,l,R,()) = (R.getD (i + 1) []).getD ((j:Int) - rowF l ((i:Int) + 1)).toNat 0:=by
  unfold g50_c4
  simp only [k2,wi,ti,Nat.zero_add]
 unfold g50_l0
 simp only [k0,k1,k2,k3,k4,Int.toNat_natCast,Nat.zero_add,List.drop_zero,List.take_length,wj,wi,w0,wh,w2,ti,hc]
 generalize hd : (j:Int) - rowF l ((i:Int) + 1) = d at *
 generalize hL1 : (R.getD i []) = row1 at *
 generalize hL2 : (R.getD (i + 1) []) = row2 at *
 generalize hv1 : row1.getD (c + 1) 0 = v1 at *
 generalize hv2 : row2.getD d.toNat 0 = v2 at *
 have hi1 : ((0:Int) ≤ (i:Int) ∧ (i:Int) < (R.length:Int)) = True:=by simp;omega
 have hi2 : (i < R.length) = True:=by simp;omega
 have hl1 : (l.length ≤ 1000) = True:=by simp;omega
 have hc1 : ((0:Int) ≤ (c:Int) ∧ (c:Int) < (row1.length:Int)) = True:=by simp;omega
 have hc3 : ((0:Int) ≤ (c:Int) ∧ (c:Int) ≤ (row1.length:Int)) = True:=by simp;omega
 have hc4 : (c < row1.length) = True:=by simp;omega
 have hc5 : (c ≤ row1.length) = True:=by simp;omega
 have hko : okRs ((l,R.set i (row1.take c),()) : SkD) = True:=by
  simp only [eq_iff_iff,iff_true]
  exact hok _ (by rw [List.length_take];omega)
 have hRl : (R.length ≤ R.length) = True:=by simp
 have hRt : (R.set i (row1.take c)).take R.length = R.set i (row1.take c):=List.take_of_length_le (by rw [List.length_set];omega)
 have wc : wr .i64 (c:Int) = (c:Int):=wr_id (by omega)
 have ei : ((i + 1:Nat):Int) = (i:Int) + 1:=by omega
 have ej : ((j + 1:Nat):Int) = (j:Int) + 1:=by omega
 have fs : (false = true) = False:=by simp
 have hp2 : 0 ≤ d ∧ d < (row2.length:Int) → 0 ≤ v2:=fun hq=>by
  have:=(h.ent (i + 1) d.toNat (by rw [hL2];omega)).1
  unfold el at this
  rw [hL2,hv2] at this
  exact this
 by_cases hr : c + 1 < row1.length
 ·have t1 : ilt ((c + 1:Nat):Int) (row1.length:Int) = true:=ilt_iff.2 (by omega)
  have t2 : ((0:Int) ≤ ((c + 1:Nat):Int) ∧ ((c + 1:Nat):Int) < (row1.length:Int)) = True:=by simp;omega
  rw [if_pos hr] at e1 ⊢
  by_cases hb : i + 1 < R.length
  ·have t3 : ilt ((i:Int) + 1) (R.length:Int) = true:=ilt_iff.2 (by omega)
   have t4 : ((0:Int) ≤ (i:Int) + 1 ∧ (i:Int) + 1 < (R.length:Int)) = True:=by simp;omega
   by_cases h5 : 0 ≤ d
   ·have t5 : ile 0 d = true:=ile_iff.2 h5
    by_cases h6 : d < (row2.length:Int)
    ·have t6 : ilt d (row2.length:Int) = true:=ilt_iff.2 h6
     have t7 : (d.toNat < row2.length) = True:=by simp;omega
     have h0 : (0 ≤ d ∧ d < (row2.length:Int)) = True:=by simp;omega
     have p2:=hp2 ⟨h5,h6⟩
     simp only [wc,Int.toNat_natCast,t1,t2,hr,t3,t4,t5,t6,t7,h0,hb,if_true,ite_true,hi1,hi2,hl1,hc1,hc3,hc4,hc5,hko,hRl,hRt,cond_true,cond_false,gd_true,true_implies,true_and,and_true,and_self,Nat.le_refl,List.length_set,imp_self,false_implies,Bool.false_eq_true]
     rw [ei,ej]
     by_cases z1 : v1 = 0 <;> by_cases z2 : v2 = 0 <;> by_cases z4 : 0 < v2 <;> by_cases z3 : v1 < v2 <;> simp [gd_true,ieq_d,ilt_d,fs,hc4,hc5,hko,hRt,z1,z2,z4,z3] <;> first | omega | (intros;omega) | skip
    ·have t6 : ilt d (row2.length:Int) = false:=ilt_false.2 (by omega)
     have h0 : (0 ≤ d ∧ d < (row2.length:Int)) = False:=by simp;omega
     simp only [wc,Int.toNat_natCast,t1,t2,hr,t3,t4,t5,t6,h0,hb,if_false,ite_false,hi1,hi2,hl1,hc1,hc3,hc4,hc5,hko,hRl,hRt,cond_true,cond_false,gd_true,true_implies,true_and,and_true,and_self,Nat.le_refl,List.length_set,imp_self,false_implies,Bool.false_eq_true]
     rw [ei,ej]
     by_cases z1 : v1 = 0 <;> simp [gd_true,ieq_d,ilt_d,fs,hc4,hc5,hko,hRt,z1] <;> first | omega | (intros;omega) | skip
   ·have t5 : ile 0 d = false:=ile_false.2 (by omega)
    have h0 : (0 ≤ d ∧ d < (row2.length:Int)) = False:=by simp;omega
    simp only [wc,Int.toNat_natCast,t1,t2,hr,t3,t4,t5,h0,hb,if_false,ite_false,hi1,hi2,hl1,hc1,hc3,hc4,hc5,hko,hRl,hRt,cond_true,cond_false,gd_true,true_implies,true_and,and_true,and_self,Nat.le_refl,List.length_set,imp_self,false_implies,Bool.false_eq_true]
    rw [ei,ej]
    by_cases z1 : v1 = 0 <;> simp [gd_true,ieq_d,ilt_d,fs,hc4,hc5,hko,hRt,z1] <;> first | omega | (intros;omega) | skip
  ·have t3 : ilt ((i:Int) + 1) (R.length:Int) = false:=ilt_false.2 (by omega)
   have h0 : (0 ≤ d ∧ d < (row2.length:Int)) = False:=by
    rw [getD_none (by omega)] at hL2
    subst hL2
    simp
   simp only [wc,Int.toNat_natCast,t1,t2,hr,t3,h0,if_false,ite_false,hi1,hi2,hl1,hc1,hc3,hc4,hc5,hko,hRl,hRt,cond_true,cond_false,gd_true,true_implies,true_and,and_true,and_self,Nat.le_refl,List.length_set,imp_self,false_implies,Bool.false_eq_true]
   rw [ei,ej]
   by_cases z1 : v1 = 0 <;> simp [gd_true,ieq_d,ilt_d,fs,hc4,hc5,hko,hRt,z1] <;> first | omega | (intros;omega) | skip
 ·have t1 : ilt ((c + 1:Nat):Int) (row1.length:Int) = false:=ilt_false.2 (by omega)
  rw [if_neg hr] at e1 ⊢
  by_cases hb : i + 1 < R.length
  ·have t3 : ilt ((i:Int) + 1) (R.length:Int) = true:=ilt_iff.2 (by omega)
   have t4 : ((0:Int) ≤ (i:Int) + 1 ∧ (i:Int) + 1 < (R.length:Int)) = True:=by simp;omega
   by_cases h5 : 0 ≤ d
   ·have t5 : ile 0 d = true:=ile_iff.2 h5
    by_cases h6 : d < (row2.length:Int)
    ·have t6 : ilt d (row2.length:Int) = true:=ilt_iff.2 h6
     have t7 : (d.toNat < row2.length) = True:=by simp;omega
     have h0 : (0 ≤ d ∧ d < (row2.length:Int)) = True:=by simp;omega
     have p2:=hp2 ⟨h5,h6⟩
     simp only [wc,Int.toNat_natCast,t1,t3,t4,t5,t6,t7,h0,hb,if_true,ite_true,hi1,hi2,hl1,hc1,hc3,hc4,hc5,hko,hRl,hRt,cond_true,cond_false,gd_true,true_implies,true_and,and_true,and_self,Nat.le_refl,List.length_set,imp_self,false_implies,Bool.false_eq_true]
     rw [ei,ej]
     by_cases z2 : v2 = 0 <;> by_cases z4 : 0 < v2 <;> simp [gd_true,ieq_d,ilt_d,fs,hc4,hc5,hko,hRt,z2,z4] <;> first | omega | (intros;omega) | skip
    ·have t6 : ilt d (row2.length:Int) = false:=ilt_false.2 (by omega)
     have h0 : (0 ≤ d ∧ d < (row2.length:Int)) = False:=by simp;omega
     simp only [wc,Int.toNat_natCast,t1,t3,t4,t5,t6,h0,hb,if_false,ite_false,hi1,hi2,hl1,hc1,hc3,hc4,hc5,hko,hRl,hRt,cond_true,cond_false,gd_true,true_implies,true_and,and_true,and_self,Nat.le_refl,List.length_set,imp_self,false_implies,Bool.false_eq_true]
     rw [ei,ej]
     simp [gd_true,ieq_d,ilt_d,fs,hc4,hc5,hko,hRt,] <;> first | omega | (intros;omega) | skip
   ·have t5 : ile 0 d = false:=ile_false.2 (by omega)
    have h0 : (0 ≤ d ∧ d < (row2.length:Int)) = False:=by simp;omega
    simp only [wc,Int.toNat_natCast,t1,t3,t4,t5,h0,hb,if_false,ite_false,hi1,hi2,hl1,hc1,hc3,hc4,hc5,hko,hRl,hRt,cond_true,cond_false,gd_true,true_implies,true_and,and_true,and_self,Nat.le_refl,List.length_set,imp_self,false_implies,Bool.false_eq_true]
    rw [ei,ej]
    simp [gd_true,ieq_d,ilt_d,fs,hc4,hc5,hko,hRt,] <;> first | omega | (intros;omega) | skip
  ·have t3 : ilt ((i:Int) + 1) (R.length:Int) = false:=ilt_false.2 (by omega)
   have h0 : (0 ≤ d ∧ d < (row2.length:Int)) = False:=by
    rw [getD_none (by omega)] at hL2
    subst hL2
    simp
   simp only [wc,Int.toNat_natCast,t1,t3,h0,if_false,ite_false,hi1,hi2,hl1,hc1,hc3,hc4,hc5,hko,hRl,hRt,cond_true,cond_false,gd_true,true_implies,true_and,and_true,and_self,Nat.le_refl,List.length_set,imp_self,false_implies,Bool.false_eq_true]
   rw [ei,ej]
   simp [gd_true,ieq_d,ilt_d,fs,hc4,hc5,hko,hRt,] <;> first | omega | (intros;omega) | skip
theorem loop50 {l : List Int} (hl : l.length ≤ 20) (A:List Int) (B:List (List Int)) : ∀ (m:Nat) (R:List (List Int)) (i j:Nat),28 ≤ m + i + j → HoleR l R i j → whileO g50_l0 (((l.length:Nat):Int),((R.length:Nat):Int),(i:Int),(j:Int),A,B,l,R,()) = some (trimF ((l,slR l m R i (j:Int),()) : SkD),())
 | 0,R,i,j,hm,h=>by
  have:=h.lt;have:=h.l20;have:=out_mono h.dec i;have:=h.o8;have:=h.hi
  omega
 | m + 1,R,i,j,hm,h=>by
  have hst:=step50 h hl A B
  have b1:=h.lt
  have b6:=h.hi
  have b5:=h.lo
  have b7:=h.fall i
  have b8:=(h.fall (i + 1)).1
  unfold outI at b6
  have ej : ((j:Int) + 1) = ((j + 1:Nat):Int):=by omega
  obtain ⟨c,hc⟩ : ∃ c : Nat,rowF l (i:Int) + (c:Int) = (j:Int):=⟨((j:Int) - rowF l (i:Int)).toNat,by omega⟩
  have hcl : c < (R.getD i []).length:=by omega
  have ec : ((j:Int) - rowF l (i:Int)).toNat = c:=by omega
  rw [ec,ej,atX_eq,atX_eq] at hst
  rw [slR,ec,ej,atX_eq,atX_eq]
  by_cases h1 : atR l R i ((j + 1:Nat):Int) = 0 ∧ atR l R (i + 1) (j:Int) = 0
  ·rw [if_pos h1] at hst ⊢
   exact whileO_out hst
  ·rw [if_neg h1] at hst ⊢
   by_cases h2 : 0 < atR l R (i + 1) (j:Int) ∧ (atR l R i ((j + 1:Nat):Int) = 0 ∨ atR l R (i + 1) (j:Int) ≤ atR l R i ((j + 1:Nat):Int))
   ·rw [if_pos h2] at hst ⊢
    obtain ⟨q1,q2,q3⟩:=at_in (b:=(j:Int)) (a:=i + 1) (by omega : atR l R (i + 1) (j:Int) ≠ 0)
    have hv:=h.at_pos (a:=i + 1) (b:=j) (by omega) q1 q2
    have hM:=h.move hc hcl hv (i':=i + 1) (j':=j) q3 q1 q2
    have:=loop50 hl A B m _ (i + 1) j (by omega) hM
    rw [List.length_set] at this
    exact (whileO_go hst).trans this
   ·rw [if_neg h2] at hst ⊢
    have hne : atR l R i ((j + 1:Nat):Int) ≠ 0:=fun hz=>by
     have hb : atR l R (i + 1) (j:Int) ≠ 0:=fun hq=>h1 ⟨hz,hq⟩
     obtain ⟨q1,q2,q3⟩:=at_in hb
     have hv:=h.at_pos (a:=i + 1) (b:=j) (by omega) q1 q2
     exact h2 ⟨by omega,.inl hz⟩
    obtain ⟨q1,q2,q3⟩:=at_in hne
    have hv:=h.at_pos (a:=i) (b:=j + 1) (by omega) q1 q2
    have hM:=h.move hc hcl hv (i':=i) (j':=j + 1) q3 q1 q2
    have:=loop50 hl A B m _ i (j + 1) (by omega) hM
    rw [List.length_set] at this
    exact (whileO_go hst).trans this
set_option maxHeartbeats 4000000 in
theorem goal50 : con50.goal Try.prog (spS [con83,con39s] [con92,con93p]) g50_sh [900000,14,1035] lm30:=by
 have e : (∀ (s : SkD) (row:Int),(skOkB s ∧ crnB s.1 row = true) → g50 s row = some (sldR s row,())) = con50.goal Try.prog (spS [con83,con39s] [con92,con93p]) g50_sh [900000,14,1035] lm30:=by kernel_rfl
 rw [← e]
 rintro ⟨l0,rows0,_⟩ row ⟨hb,hc⟩
 have hb : BedR l0 rows0:=hb
 have hc : crnB l0 row = true:=hc
 obtain ⟨c0,c1,c2,c3⟩:=crn_pos hb.shp hc
 have hok:=hb.ok
 have k1 : l0.length ≤ 1000:=hok.1
 have k2 : rows0.length ≤ 1000:=hok.2.1
 have k3 : ∀ r ∈ rows0,r.length ≤ 1000:=hok.2.2
 have hl:=hb.len
 have h20:=hb.l20
 have k4:=getD_row k3 row.toNat
 have w : wr .i64 (l0.getD row.toNat 0 - 1) = l0.getD row.toNat 0 - 1:=wr_id (by omega)
 obtain ⟨hH,_⟩:=hole_of hb hc
 have er : ((row.toNat:Nat):Int) = row:=Int.toNat_of_nonneg c0
 have ev : (((l0.getD row.toNat 0 - 1).toNat:Nat):Int) = l0.getD row.toNat 0 - 1:=Int.toNat_of_nonneg (by omega)
 have hdl : (decI l0 row).length = l0.length:=by unfold decI;rw [List.length_set]
 have hhl : (holeI rows0 row).length = rows0.length:=by unfold holeI;rw [List.length_set]
 have hL:=loop50 (l:=decI l0 row) (by rw [hdl];omega) [] [] 40 (holeI rows0 row) row.toNat (l0.getD row.toNat 0 - 1).toNat (by omega) hH
 rw [er,ev,hdl,hhl] at hL
 unfold g50
 refine gd_eq (by omega) (gd_eq (by simp only;omega) (gd_eq ⟨k2,fun x hx=>k3 x hx⟩ (gd_eq (by simp only;omega) (gd_eq (by simp only;omega) (gd_eq (by simp only;omega) (gd_eq (by simp only;omega) (gd_eq (by simp only;omega) (gd_eq (by simp only;omega) (gd_eq (by simp only;omega) (gd_eq (by simp only;omega) (gd_eq (by simp only;omega) (gd_eq (by omega) (gd_eq (by simp only [Nat.zero_add,List.drop_zero,List.take_length];omega) (gd_eq (by simp only;omega) (gd_eq (by simp only;omega) (gd_eq (by simp only [Nat.zero_add,List.drop_zero,List.take_length];omega) ?_))))))))))))))))
 refine (congrArg (whileO g50_l0) ?_ : whileO g50_l0 _ = whileO g50_l0 _).trans hL
 simp only [Nat.zero_add,List.drop_zero,List.take_length,w]
 rfl
end Go.Schur
set_option maxRecDepth 100000
namespace Go.Schur
open Go Go.Ab Go.Proofs
theorem cut_cut {s : SkD} : cutF (cutF s) = cutF s:=by
 unfold cutF
 simp only [tab_tab,List.take_take,Nat.min_self]
theorem slides_ok {t : SkD} (h : SkOk t.1 t.2.1) : (readF t).isSome = true ∧ stX t = ((strG 40 (trimF t)).2.1,0,()) ∧ ∀ row,crnB t.1 row = true → slX t row = (sldR t row,0,()):=by
 have hr : (readF t).isSome = true:=(read_iff (inner:=t.1) (rows:=t.2.1)).2 h
 obtain ⟨xs,hx,hB,hbx,hok,hin⟩:=bed_of hr
 have hb:=bed_ok h
 have es : ((t.1,t.2.1,()) : SkD) = t:=rfl
 refine ⟨hr,?_,fun row hc=>?_⟩
 ·unfold stX
  rw [if_pos hr,hx,Option.getD_some]
  obtain ⟨R',t1,t2,t3,t4⟩:=trim_bed hb
  rw [es] at t1
  rw [t1]
  have:=str_eq 40 t.1 R' xs t.1 t.1.length (Nat.le_refl _) (by rw [List.take_length]) t2 hB.1 (fun a b ha hb'=>by rw [t3];exact hbx a b ha hb') (t4 xs hbx) (by have:=(shapeB_iff.1 hb.shp).2.2;omega)
  rw [this]
 ·unfold slX
  rw [if_pos ⟨hr,hc⟩,hx,Option.getD_some]
  obtain ⟨R',r1,r2,r3,r4,r5⟩:=slide_out hb hc hB.1 hbx
  rw [es] at r1
  rw [r1]
  have : skwB (sldB xs (t.1.length:Int) t.1 row) = ((decI t.1 row).take (lenP row (t.1.length:Int) t.1).toNat,R',()):=by
   have e : skwB (sldB xs (t.1.length:Int) t.1 row) = ((decI t.1 row).take (lenP row (t.1.length:Int) t.1).toNat,skRows (slF (30 - (row + (t.1.getD row.toNat 0 - 1))).toNat xs row (t.1.getD row.toNat 0 - 1)) ((decI t.1 row).take (lenP row (t.1.length:Int) t.1).toNat) 21,()):=rfl
   rw [e,r5]
  rw [this]
theorem strG_bed : ∀ (m:Nat) (l:List Int) (rows:List (List Int)),BedR l rows → ∃ l' R',strG m ((l,rows,()) : SkD) = (l',R',()) ∧ BedR l' R'
 | 0,l,rows,h=>⟨l,rows,rfl,h⟩
 | m + 1,l,rows,h=>by
  by_cases h0 : l.length = 0
  ·exact ⟨l,rows,by rw [strG,if_pos (show ((l,rows,()) : SkD).1.length = 0 from h0)],h⟩
  ·obtain ⟨l',R',r1,r2,_⟩:=slide_bed h (crn_last h.shp (by omega))
   obtain ⟨l2,R2,q1,q2⟩:=strG_bed m l' R' r2
   exact ⟨l2,R2,by rw [strG,if_neg (show ¬ ((l,rows,()) : SkD).1.length = 0 from h0),← q1,← r1],q2⟩
theorem BedR.small {l : List Int} {rows : List (List Int)} (h : BedR l rows) : Ab.small l ∧ Ab.small rows ∧ ∀ x,List.Mem x rows → Ab.small x:=by
 obtain ⟨h1,h2,h3⟩:=h.ok
 have h1 : l.length ≤ 1000:=h1
 have h2 : rows.length ≤ 1000:=h2
 refine ⟨by unfold Ab.small;omega,by unfold Ab.small;omega,fun x hx=>?_⟩
 have : x.length ≤ 1000:=h3 x hx
 unfold Ab.small;omega
set_option maxHeartbeats 2000000 in
theorem goal10 : con10.goal Try.prog (spOf [con42,con44,con43,con45,con46,con47,con48,con49,con50,con24,con51,con27]) g10_sh [] lm30:=by
 have e : (∀ (s : SkD) (row:Int),(small s.1 ∧ small s.2.1) → g10 s row = some (true,())) = con10.goal Try.prog (spOf [con42,con44,con43,con45,con46,con47,con48,con49,con50,con24,con51,con27]) g10_sh [] lm30:=by kernel_rfl
 rw [← e]
 rintro s row h0
 have es : ∀ t : SkD,((t.1,t.2.1,()) : SkD) = t:=fun _=>rfl
 have t12 : (cutF s).1.length ≤ 12:=by show (s.1.take 12).length ≤ 12;rw [List.length_take];omega
 have r12 : (cutF s).2.1.length ≤ 12:=tab_len
 have hr12 : ∀ r ∈ (cutF s).2.1,r.length ≤ 12:=fun r hr=>tab_row (r:=s.2.1) hr
 unfold g10 g10_c0 g10_c1 g10_c2 g10_c3 g10_c4 g10_c5 g10_c6 g10_c7
 simp only [es,cut_cut]
 generalize cutF s = t at *
 have s1 : small t.1 ∧ small t.2.1:=⟨by unfold small;omega,by unfold small;omega⟩
 have ok : okRs t:=⟨by omega,by omega,fun r hr=>by have:=hr12 r hr;omega⟩
 have ok2 : small t.1 ∧ okL2 t.2.1:=⟨s1.1,by omega,fun r hr=>by have:=hr12 r hr;omega⟩
 have i0 : ieq 0 0 = true:=rfl
 have i2 : ieq 2 2 = true:=rfl
 have l1 : t.1.length ≤ 1000:=by omega
 rw [gd_pos h0,gd_pos s1,gd_pos ok,gd_pos s1,gd_pos ok,gd_pos ok2]
 have hsk : skB t = true ↔ SkOk t.1 t.2.1:=skB_iff (inner:=t.1) (rows:=t.2.1) (by omega)
 cases hk : skB t with
 | false =>
  have hno : (readF t).isSome = false:=by
   cases hq : (readF t).isSome with
   | false=>rfl
   | true =>
    have:=hsk.2 ((read_iff (inner:=t.1) (rows:=t.2.1)).1 hq)
    rw [hk] at this;cases this
  have e1 : slX t row = (([],[],()),2,()):=by unfold slX;rw [if_neg (fun h=>by rw [hno] at h;cases h.1)]
  have e2 : stX t = ([],2,()):=by unfold stX;rw [if_neg (fun h=>by rw [hno] at h;cases h)]
  have e3 : noneB (([],[],()) : SkD) = true:=rfl
  simp [e1,e2,e3,i0,i2,gd_true]
 | true =>
  have hS:=hsk.1 hk
  obtain ⟨q1,q2,q3⟩:=slides_ok hS
  have hb : skOkB t:=bed_ok hS
  have el2 : ∀ a,eqL2 a a = true:=fun a=>by simp [eqL2]
  have el1 : ∀ a,eqL1 a a = true:=fun a=>by simp [eqL1]
  have i20 : ieq 2 0 = false:=rfl
  obtain ⟨R1,t1,t2,_⟩:=trim_bed (bed_ok hS)
  obtain ⟨l2,R2,w1,w2⟩:=strG_bed 40 t.1 R1 t2
  have t1 : trimF t = (t.1,R1,()):=t1
  have w0 : strG 40 (trimF t) = (l2,R2,()):=by rw [t1];exact w1
  obtain ⟨_,m2,m3⟩:=w2.small
  have m4 : Ab.small R2 ∧ ∀ x,List.Mem x R2 → Ab.small x:=⟨m2,m3⟩
  rw [q2,w0]
  cases hc : crnB t.1 row with
  | false =>
   have e1 : slX t row = (([],[],()),2,()):=by unfold slX;rw [if_neg (fun h=>by rw [hc] at h;cases h.2)]
   have e3 : noneB (([],[],()) : SkD) = true:=rfl
   rw [e1]
   simp only [el2,i0,i2,i20,e3,l1,hb,Bool.not_true,Bool.not_false,cond_true,cond_false,gd_true,true_implies,true_and,and_true,Bool.false_eq_true,false_implies,List.length_nil,Nat.zero_le,Bool.true_eq_false,implies_true]
   rw [gd_pos m4]
  | true =>
   obtain ⟨l3,R3,v1,v2,_⟩:=slide_bed (bed_ok hS) hc
   have v1 : sldR t row = (l3,R3,()):=v1
   obtain ⟨n1,n2,n3⟩:=v2.small
   rw [q3 row hc,v1]
   simp only [el2,el1,i0,i2,i20,l1,hb,n1,n2,Bool.not_true,Bool.not_false,cond_true,cond_false,gd_true,true_implies,true_and,and_true,Bool.false_eq_true,false_implies,Bool.true_eq_false,implies_true]
   rw [gd_pos m4,gd_pos n3]
end Go.Schur
set_option maxRecDepth 100000
namespace Go.Schur
open Go Go.Ab Go.Proofs
theorem ok50 : con50.Ok Try.prog:=Con.of_goalS mixed (okC ok92 (okC ok93p okN)) (okS ok83 (okS ok39s okS0)) con50 goal50
theorem ok48 : con48.Ok Try.prog:=Con.of_goal mixed (okC ok92 (okC ok50 okN)) con48 goal48
theorem ok10 : con10.Ok Try.prog:=Con.of_goal mixed (okC ok42 (okC ok44 (okC ok43 (okC ok45 (okC ok46 (okC ok47 (okC ok48 (okC ok49 (okC ok50 (okC ok24 (okC ok51 (okC ok27 okN)))))))))))) con10 goal10
end Go.Schur
