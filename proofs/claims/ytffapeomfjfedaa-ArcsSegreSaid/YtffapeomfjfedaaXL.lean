/- The law Pascal: contracts. -/
import Derived.Test.YtffapeomfjfedaaXI
import Derived.Test.YtffapeomfjfedaaXE
set_option linter.unusedVariables false
set_option linter.unusedSimpArgs false
namespace Go.Arcs
open Go Go.Ab Go.Proofs
abbrev A6 : Ty:=.prod I64 (.prod I64 (.prod I64 (.prod I64 (.prod I64 (.prod I64 .unit)))))
abbrev A6D:=Int × Int × Int × Int × Int × Int × Unit
def powF (x : TripD) : A6D:=(x.1 * x.1,x.2.1 * x.2.1,x.2.2.1 * x.2.2.1,x.1 * x.2.1,x.1 * x.2.2.1,x.2.1 * x.2.2.1,())
noncomputable def con105 : Con:=mkC 105 [.d Trip] [A6] (fun (x : TripD)=>[inR 7 x]) (fun (x : TripD)=>(powF x,()))
noncomputable def g105 (x0 : Int × Int × Int × Unit) : Option ((Int × Int × Int × Int × Int × Int × Unit) × Unit):=gd ((0:Nat) < 3) (gd ((0:Nat) < 3) (gd ((1:Nat) < 3) (gd ((1:Nat) < 3) (gd ((2:Nat) < 3) (gd ((2:Nat) < 3) (gd ((0:Nat) < 3) (gd ((1:Nat) < 3) (gd ((0:Nat) < 3) (gd ((2:Nat) < 3) (gd ((1:Nat) < 3) (gd ((2:Nat) < 3) (gd ((6:Nat) ≤ 6) (gd ((6:Nat) ≤ 6) (some ((((wr .i64 (x0.1 * x0.1),wr .i64 (x0.2.1 * x0.2.1),wr .i64 (x0.2.2.1 * x0.2.2.1),wr .i64 (x0.1 * x0.2.1),wr .i64 (x0.1 * x0.2.2.1),wr .i64 (x0.2.1 * x0.2.2.1),()) : Int × Int × Int × Int × Int × Int × Unit),()) : (Int × Int × Int × Int × Int × Int × Unit) × Unit)))))))))))))))
noncomputable def g105_sh : List LSh:=([] : List LSh)
def inS (p:Int) (c : A6D) : Prop:=(0 ≤ c.1 ∧ c.1 < p) ∧ (0 ≤ c.2.1 ∧ c.2.1 < p) ∧ (0 ≤ c.2.2.1 ∧ c.2.2.1 < p) ∧ (0 ≤ c.2.2.2.1 ∧ c.2.2.2.1 < p) ∧ (0 ≤ c.2.2.2.2.1 ∧ c.2.2.2.2.1 < p) ∧ (0 ≤ c.2.2.2.2.2.1 ∧ c.2.2.2.2.2.1 < p)
def quad (c : A6D) (x : TripD) : Int:=c.1 * (x.1 * x.1) + c.2.1 * (x.2.1 * x.2.1) + c.2.2.1 * (x.2.2.1 * x.2.2.1) + c.2.2.2.1 * (x.1 * x.2.1) + c.2.2.2.2.1 * (x.1 * x.2.2.1) + c.2.2.2.2.2.1 * (x.2.1 * x.2.2.1)
noncomputable def onC (p:Int) (c : A6D) (a:Int) : Bool:=ieq (quad c (pt p a) % p) 0
noncomputable def con103 : Con:=mkC 103 [.d (.ptr Plane),.d A6,.d I64] [.bool] (fun (k : PlaneD) (c : A6D) (a:Int)=>[isPl k,inS k.1 c,inPt k.1 a = true]) (fun (k : PlaneD) (c : A6D) (a:Int)=>(onC k.1 c a,()))
noncomputable def g103 (x0 : Int × List (Int × Int × Int × Unit) × List ((Int × Int × Int × Unit) × Int) × Unit) (x1 : Int × Int × Int × Int × Int × Int × Unit) (x2:Int) : Option (Bool × Unit):=gd (0 ≤ x2 ∧ x2 < (↑(List.length x0.2.1):Int)) (gd ((0 ≤ (List.getD x0.2.1 (Int.toNat x2) ((0,0,0,()) : Int × Int × Int × Unit)).1 ∧ (List.getD x0.2.1 (Int.toNat x2) ((0,0,0,()) : Int × Int × Int × Unit)).1 < 7) ∧ (0 ≤ (List.getD x0.2.1 (Int.toNat x2) ((0,0,0,()) : Int × Int × Int × Unit)).2.1 ∧ (List.getD x0.2.1 (Int.toNat x2) ((0,0,0,()) : Int × Int × Int × Unit)).2.1 < 7) ∧ 0 ≤ (List.getD x0.2.1 (Int.toNat x2) ((0,0,0,()) : Int × Int × Int × Unit)).2.2.1 ∧ (List.getD x0.2.1 (Int.toNat x2) ((0,0,0,()) : Int × Int × Int × Unit)).2.2.1 < 7) (whileO (fun (d3 : Int × Int × List Int × Unit)=>bif ilt d3.2.1 6 then gd (0 ≤ d3.2.1 ∧ d3.2.1 < 6) (gd (0 ≤ d3.2.1 ∧ d3.2.1 < 6) (gd (0 + Int.toNat d3.2.1 * 1 < List.length d3.2.2.1) (some (Lp.go ((wr .i64 (d3.1 + wr .i64 (List.getD d3.2.2.1 (0 + Int.toNat d3.2.1 * 1) 0 * (@id Int (arrGet 6 (Ty.int IntKind.i64) (powF (List.getD x0.2.1 (Int.toNat x2) ((0,0,0,()) : Int × Int × Int × Unit)) : A6D) (Int.toNat d3.2.1))))),wr .i64 (d3.2.1 + 1),d3.2.2.1,()) : Int × Int × List Int × Unit))))) else gd (x0.1 ≠ 0) (some (Lp.out ((ieq (modF x0.1 d3.1) 0,()) : Bool × Unit)))) ((0,0,x1.1 :: x1.2.1 :: x1.2.2.1 :: x1.2.2.2.1 :: x1.2.2.2.2.1 :: x1.2.2.2.2.2.1 :: ([]:List Int),()) : Int × Int × List Int × Unit)))
noncomputable def g103_sh : List LSh:=LSh.mk (((4,TV.ref (0) 1 0 0) : Nat × TV) :: ((7,TV.v (Ty.int IntKind.i64)) : Nat × TV) :: ((18,TV.v (Ty.int IntKind.i64)) : Nat × TV) :: ([] : List (Nat × TV))) (TB.arr (Ty.int IntKind.i64) false :: ([] : List TB)) :: ([] : List LSh)
noncomputable def con100 : Con:=mkC 100 [.d I64] [.bool] (fun (x:Int)=>[]) (fun (x:Int)=>(!ieq x 0,()))
noncomputable def g100 (x0:Int) : Option (Bool × Unit):=some ((!ieq x0 0,()) : Bool × Unit)
noncomputable def g100_sh : List LSh:=([] : List LSh)
def nzI : List Int → Int → Int
 | [],_=>-1
 | x :: l,i=>if x = 0 then nzI l (i + 1) else i
noncomputable def con99c : Con:=mkC 99 [.d LI,.fn 100 []] [I64] (fun (l:List Int)=>[small l]) (fun (l:List Int)=>(nzI l 0,()))
noncomputable def g99c (x0:List Int) : Option (Int × Unit):=whileO (fun (d1 : Int × Unit)=>bif ilt d1.1 (↑(List.length x0):Int) then gd (0 ≤ d1.1 ∧ d1.1 < (↑(List.length x0):Int)) (bif !ieq (List.getD x0 (Int.toNat d1.1) 0) 0 then some (Lp.out ((d1.1,()) : Int × Unit)) else some (Lp.go ((wr .i64 (d1.1 + 1),()) : Int × Unit))) else some (Lp.out (((-1:Int),()) : Int × Unit))) ((0,()) : Int × Unit)
noncomputable def g99c_sh : List LSh:=LSh.mk (((1,TV.fn (100) TV.nil) : Nat × TV) :: ((8,TV.v (Ty.int IntKind.i64)) : Nat × TV) :: ([] : List (Nat × TV))) ([] : List TB) :: ([] : List LSh)
noncomputable def con101 : Con:=mkC 101 [.d LI] [I64] (fun (l:List Int)=>[l.length = 6]) (fun (l:List Int)=>((l.drop 1).foldl imin (l.getD 0 0),()))
noncomputable def g101 (x0:List Int) : Option (Int × Unit):=bif ilt (↑(List.length x0):Int) 1 then gd False (gd False (gd ((0:Int) ≤ 0 ∧ 0 < (↑(List.length x0):Int)) (whileO (fun (d1 : Int × Int × Unit)=>bif ilt d1.2.1 (↑(List.length x0):Int) then gd (0 ≤ d1.2.1 ∧ d1.2.1 < (↑(List.length x0):Int)) (some (Lp.go ((imin d1.1 (List.getD x0 (Int.toNat d1.2.1) 0),wr .i64 (d1.2.1 + 1),()) : Int × Int × Unit))) else some (Lp.out ((d1.1,()) : Int × Unit))) ((List.getD x0 0 0,1,()) : Int × Int × Unit)))) else gd ((0:Int) ≤ 0 ∧ 0 < (↑(List.length x0):Int)) (whileO (fun (d1 : Int × Int × Unit)=>bif ilt d1.2.1 (↑(List.length x0):Int) then gd (0 ≤ d1.2.1 ∧ d1.2.1 < (↑(List.length x0):Int)) (some (Lp.go ((imin d1.1 (List.getD x0 (Int.toNat d1.2.1) 0),wr .i64 (d1.2.1 + 1),()) : Int × Int × Unit))) else some (Lp.out ((d1.1,()) : Int × Unit))) ((List.getD x0 0 0,1,()) : Int × Int × Unit))
noncomputable def g101_sh : List LSh:=LSh.mk (((3,TV.v (Ty.int IntKind.i64)) : Nat × TV) :: ((4,TV.v (Ty.int IntKind.i64)) : Nat × TV) :: ([] : List (Nat × TV))) ([] : List TB) :: ([] : List LSh)
noncomputable def con102 : Con:=mkC 102 [.d LI] [I64] (fun (l:List Int)=>[l.length = 6]) (fun (l:List Int)=>((l.drop 1).foldl imax (l.getD 0 0),()))
noncomputable def g102 (x0:List Int) : Option (Int × Unit):=bif ilt (↑(List.length x0):Int) 1 then gd False (gd False (gd ((0:Int) ≤ 0 ∧ 0 < (↑(List.length x0):Int)) (whileO (fun (d1 : Int × Int × Unit)=>bif ilt d1.2.1 (↑(List.length x0):Int) then gd (0 ≤ d1.2.1 ∧ d1.2.1 < (↑(List.length x0):Int)) (some (Lp.go ((imax d1.1 (List.getD x0 (Int.toNat d1.2.1) 0),wr .i64 (d1.2.1 + 1),()) : Int × Int × Unit))) else some (Lp.out ((d1.1,()) : Int × Unit))) ((List.getD x0 0 0,1,()) : Int × Int × Unit)))) else gd ((0:Int) ≤ 0 ∧ 0 < (↑(List.length x0):Int)) (whileO (fun (d1 : Int × Int × Unit)=>bif ilt d1.2.1 (↑(List.length x0):Int) then gd (0 ≤ d1.2.1 ∧ d1.2.1 < (↑(List.length x0):Int)) (some (Lp.go ((imax d1.1 (List.getD x0 (Int.toNat d1.2.1) 0),wr .i64 (d1.2.1 + 1),()) : Int × Int × Unit))) else some (Lp.out ((d1.1,()) : Int × Unit))) ((List.getD x0 0 0,1,()) : Int × Int × Unit))
noncomputable def g102_sh : List LSh:=LSh.mk (((3,TV.v (Ty.int IntKind.i64)) : Nat × TV) :: ((4,TV.v (Ty.int IntKind.i64)) : Nat × TV) :: ([] : List (Nat × TV))) ([] : List TB) :: ([] : List LSh)
def l6 (c : A6D) : List Int:=[c.1,c.2.1,c.2.2.1,c.2.2.2.1,c.2.2.2.2.1,c.2.2.2.2.2.1]
noncomputable def isCb (p:Int) (c : A6D) : Bool:=isPb p && (l6 c).all (fun x=>decide (0 ≤ x) && decide (x < p)) && decide (0 ≤ nzI (l6 c) 0) && ieq ((l6 c).getD (nzI (l6 c) 0).toNat 0) 1
noncomputable def crvF (p:Int) (c : A6D) : List Int:=flt (fun (x:Nat)=>onC p c (x:Int)) (ptsC p).length
noncomputable def crvX (p:Int) (c : A6D) : List Int × Int × Unit:=if isCb p c = true then (crvF p c,0,()) else ([],2,())
noncomputable def con54 : Con:=mkC 54 [.d I64,.d A6] [LI,I64] (fun (p:Int) (c : A6D)=>[]) (fun (p:Int) (c : A6D)=>crvX p c)
noncomputable def g54_c0 (x0:Int) (x1 : Int × Int × Int × Int × Int × Int × Unit) : Bool:=bif !(readF x0 ([]:List Int)).2.1 then true else ilt (nzI (x1.1 :: x1.2.1 :: x1.2.2.1 :: x1.2.2.2.1 :: x1.2.2.2.2.1 :: x1.2.2.2.2.2.1 :: ([]:List Int)) 0) 0
noncomputable def g54_c1 (x1 : Int × Int × Int × Int × Int × Int × Unit) : Int:=List.getD (x1.1 :: x1.2.1 :: x1.2.2.1 :: x1.2.2.2.1 :: x1.2.2.2.2.1 :: x1.2.2.2.2.2.1 :: ([]:List Int)) (0 + Int.toNat (nzI (x1.1 :: x1.2.1 :: x1.2.2.1 :: x1.2.2.2.1 :: x1.2.2.2.2.1 :: x1.2.2.2.2.2.1 :: ([]:List Int)) 0) * 1) 0
noncomputable def g54_c2 (x0:Int) (x1 : Int × Int × Int × Int × Int × Int × Unit) : Bool:=bif bif g54_c0 x0 x1 then true else !ieq (g54_c1 x1) 1 then true else ilt (List.foldl imin x1.1 (x1.2.1 :: x1.2.2.1 :: x1.2.2.2.1 :: x1.2.2.2.2.1 :: x1.2.2.2.2.2.1 :: ([]:List Int))) 0
noncomputable def g54_c3 (x0:Int) : Int:=(↑(List.length (Option.getD (readF x0 ([]:List Int)).1 ((0,([] : List (Int × Int × Int × Unit)),([] : List ((Int × Int × Int × Unit) × Int)),()) : Int × List (Int × Int × Int × Unit) × List ((Int × Int × Int × Unit) × Int) × Unit)).2.1):Int)
noncomputable def g54_c4 (x0:Int) (d2 : Int × List Int × List Int × Unit) : Bool:=onC (Option.getD (readF x0 ([]:List Int)).1 ((0,([] : List (Int × Int × Int × Unit)),([] : List ((Int × Int × Int × Unit) × Int)),()) : Int × List (Int × Int × Int × Unit) × List ((Int × Int × Int × Unit) × Int) × Unit)).1 ((List.getD d2.2.1 0 0,List.getD d2.2.1 1 0,List.getD d2.2.1 2 0,List.getD d2.2.1 3 0,List.getD d2.2.1 4 0,List.getD d2.2.1 5 0,()) : Int × Int × Int × Int × Int × Int × Unit) d2.1
noncomputable def g54 (x0:Int) (x1 : Int × Int × Int × Int × Int × Int × Unit) : Option (List Int × Int × Unit):=gd (small ([]:List Int)) (gd ((6:Nat) ≤ 6) (gd (small (x1.1 :: x1.2.1 :: x1.2.2.1 :: x1.2.2.2.1 :: x1.2.2.2.2.1 :: x1.2.2.2.2.2.1 :: ([]:List Int))) (gd ((!!(readF x0 ([]:List Int)).2.1) = true → (!!(readF x0 ([]:List Int)).2.1) = true) (gd ((!(readF x0 ([]:List Int)).2.1) = false → (!!(readF x0 ([]:List Int)).2.1) = true) (gd ((!g54_c0 x0 x1) = true → (!g54_c0 x0 x1) = true ∧ 0 ≤ nzI (x1.1 :: x1.2.1 :: x1.2.2.1 :: x1.2.2.2.1 :: x1.2.2.2.2.1 :: x1.2.2.2.2.2.1 :: ([]:List Int)) 0 ∧ nzI (x1.1 :: x1.2.1 :: x1.2.2.1 :: x1.2.2.2.1 :: x1.2.2.2.2.1 :: x1.2.2.2.2.2.1 :: ([]:List Int)) (0:Int) < 6) (gd ((!g54_c0 x0 x1) = true → (!g54_c0 x0 x1) = true ∧ 0 + Int.toNat (nzI (x1.1 :: x1.2.1 :: x1.2.2.1 :: x1.2.2.2.1 :: x1.2.2.2.2.1 :: x1.2.2.2.2.2.1 :: ([]:List Int)) 0) * (1:Nat) < 6) (gd ((!g54_c0 x0 x1) = true → (!g54_c0 x0 x1) = true) (gd (g54_c0 x0 x1 = false → (!g54_c0 x0 x1) = true) (gd ((!bif g54_c0 x0 x1 then true else !ieq (g54_c1 x1) 1) = true → (!bif g54_c0 x0 x1 then true else !ieq (g54_c1 x1) 1) = true ∧ (6:Nat) ≤ 6 ∧ (6:Nat) = 6) (gd ((!bif g54_c0 x0 x1 then true else !ieq (g54_c1 x1) 1) = true → (!bif g54_c0 x0 x1 then true else !ieq (g54_c1 x1) 1) = true) (gd ((bif g54_c0 x0 x1 then true else !ieq (g54_c1 x1) 1) = false → (!bif g54_c0 x0 x1 then true else !ieq (g54_c1 x1) 1) = true) (gd ((!g54_c2 x0 x1) = true → (!g54_c2 x0 x1) = true ∧ (6:Nat) ≤ 6 ∧ (6:Nat) = 6) (gd ((!g54_c2 x0 x1) = true → (!g54_c2 x0 x1) = true ∧ (!g54_c2 x0 x1) = true) (gd (g54_c2 x0 x1 = false → (!g54_c2 x0 x1) = true) (bif bif g54_c2 x0 x1 then true else ile x0 (List.foldl imax x1.1 (x1.2.1 :: x1.2.2.1 :: x1.2.2.2.1 :: x1.2.2.2.2.1 :: x1.2.2.2.2.2.1 :: ([]:List Int))) then some ((([]:List Int),2,()) : List Int × Int × Unit) else gd (Option.isSome (readF x0 ([]:List Int)).1 = true) (gd ((0:Nat) = 0) (whileO (fun (d2 : Int × List Int × List Int × Unit)=>bif ilt d2.1 (g54_c3 x0) then gd (6 ≤ List.length d2.2.1) (gd (Option.isSome (readF x0 ([]:List Int)).1 = true) (gd (isPl (Option.getD (readF x0 ([]:List Int)).1 ((0,([] : List (Int × Int × Int × Unit)),([] : List ((Int × Int × Int × Unit) × Int)),()) : Int × List (Int × Int × Int × Unit) × List ((Int × Int × Int × Unit) × Int) × Unit))) (gd ((0 ≤ List.getD d2.2.1 0 0 ∧ List.getD d2.2.1 0 0 < (Option.getD (readF x0 ([]:List Int)).1 ((0,([] : List (Int × Int × Int × Unit)),([] : List ((Int × Int × Int × Unit) × Int)),()) : Int × List (Int × Int × Int × Unit) × List ((Int × Int × Int × Unit) × Int) × Unit)).1) ∧ (0 ≤ List.getD d2.2.1 1 0 ∧ List.getD d2.2.1 1 0 < (Option.getD (readF x0 ([]:List Int)).1 ((0,([] : List (Int × Int × Int × Unit)),([] : List ((Int × Int × Int × Unit) × Int)),()) : Int × List (Int × Int × Int × Unit) × List ((Int × Int × Int × Unit) × Int) × Unit)).1) ∧ (0 ≤ List.getD d2.2.1 2 0 ∧ List.getD d2.2.1 2 0 < (Option.getD (readF x0 ([]:List Int)).1 ((0,([] : List (Int × Int × Int × Unit)),([] : List ((Int × Int × Int × Unit) × Int)),()) : Int × List (Int × Int × Int × Unit) × List ((Int × Int × Int × Unit) × Int) × Unit)).1) ∧ (0 ≤ List.getD d2.2.1 3 0 ∧ List.getD d2.2.1 3 0 < (Option.getD (readF x0 ([]:List Int)).1 ((0,([] : List (Int × Int × Int × Unit)),([] : List ((Int × Int × Int × Unit) × Int)),()) : Int × List (Int × Int × Int × Unit) × List ((Int × Int × Int × Unit) × Int) × Unit)).1) ∧ (0 ≤ List.getD d2.2.1 4 0 ∧ List.getD d2.2.1 4 0 < (Option.getD (readF x0 ([]:List Int)).1 ((0,([] : List (Int × Int × Int × Unit)),([] : List ((Int × Int × Int × Unit) × Int)),()) : Int × List (Int × Int × Int × Unit) × List ((Int × Int × Int × Unit) × Int) × Unit)).1) ∧ 0 ≤ List.getD d2.2.1 5 0 ∧ List.getD d2.2.1 5 0 < (Option.getD (readF x0 ([]:List Int)).1 ((0,([] : List (Int × Int × Int × Unit)),([] : List ((Int × Int × Int × Unit) × Int)),()) : Int × List (Int × Int × Int × Unit) × List ((Int × Int × Int × Unit) × Int) × Unit)).1) (gd (inPt (Option.getD (readF x0 ([]:List Int)).1 ((0,([] : List (Int × Int × Int × Unit)),([] : List ((Int × Int × Int × Unit) × Int)),()) : Int × List (Int × Int × Int × Unit) × List ((Int × Int × Int × Unit) × Int) × Unit)).1 d2.1 = true) (bif g54_c4 x0 d2 then gd (List.length d2.2.2.1 ≤ List.length d2.2.2.1) (gd ((List.length d2.2.2.1 + 1) * (8:Nat) ≤ 1099511627776) (gd (List.length d2.2.2.1 + 1 = List.length (List.take (List.length d2.2.2.1) d2.2.2.1 ++ d2.1 :: ([]:List Int))) (some (Lp.go ((wr .i64 (d2.1 + 1),d2.2.1,List.take (List.length d2.2.2.1) d2.2.2.1 ++ d2.1 :: ([]:List Int),()) : Int × List Int × List Int × Unit))))) else gd (List.length d2.2.2.1 = List.length d2.2.2.1) (some (Lp.go ((wr .i64 (d2.1 + 1),d2.2.1,d2.2.2.1,()) : Int × List Int × List Int × Unit)))))))) else gd (0 + List.length d2.2.2.1 ≤ List.length d2.2.2.1) (some (Lp.out ((List.take (List.length d2.2.2.1) (List.drop 0 d2.2.2.1),0,()) : List Int × Int × Unit)))) ((0,x1.1 :: x1.2.1 :: x1.2.2.1 :: x1.2.2.2.1 :: x1.2.2.2.2.1 :: x1.2.2.2.2.2.1 :: ([]:List Int),([]:List Int),()) : Int × List Int × List Int × Unit))))))))))))))))))
noncomputable def g54_sh : List LSh:=LSh.mk (((3,TV.ref (0) 1 0 0) : Nat × TV) :: ((9,TV.slf (1) (1)) : Nat × TV) :: ((46,TV.v (Ty.int IntKind.i64)) : Nat × TV) :: ([] : List (Nat × TV))) (TB.arr (Ty.int IntKind.i64) false :: TB.arr (Ty.int IntKind.i64) true :: ([] : List TB)) :: ([] : List LSh)
end Go.Arcs
namespace Go.Arcs
open Go Go.Ab Go.Proofs
theorem mulB7 {a b : Int} (ha : 0 ≤ a ∧ a < 7) (hb : 0 ≤ b ∧ b < 7) : 0 ≤ a * b ∧ a * b ≤ 36 :=
 ⟨Int.mul_nonneg ha.1 hb.1,Int.le_trans (Int.mul_le_mul (show a ≤ 6 by omega) (show b ≤ 6 by omega) hb.1 (by omega)) (by omega)⟩
theorem goal105 : con105.goal Try.prog (spOf []) g105_sh [] lm30:=by
 have e : (∀ (x : TripD),inR 7 x → g105 x = some (powF x,())) = con105.goal Try.prog (spOf []) g105_sh [] lm30:=by kernel_rfl
 rw [← e]
 rintro ⟨x,y,z,⟨⟩⟩ ⟨hx,hy,hz⟩
 simp only at hx hy hz
 have b1:=mulB7 hx hx
 have b2:=mulB7 hy hy
 have b3:=mulB7 hz hz
 have b4:=mulB7 hx hy
 have b5:=mulB7 hx hz
 have b6:=mulB7 hy hz
 have w1 : wr .i64 (x * x) = x * x:=wr_id (by omega)
 have w2 : wr .i64 (y * y) = y * y:=wr_id (by omega)
 have w3 : wr .i64 (z * z) = z * z:=wr_id (by omega)
 have w4 : wr .i64 (x * y) = x * y:=wr_id (by omega)
 have w5 : wr .i64 (x * z) = x * z:=wr_id (by omega)
 have w6 : wr .i64 (y * z) = y * z:=wr_id (by omega)
 unfold g105 powF
 simp only [gd_true,w1,w2,w3,w4,w5,w6,Nat.le_refl,show (0:Nat) < 3 from by decide,show (1:Nat) < 3 from by decide,show (2:Nat) < 3 from by decide]
set_option maxRecDepth 100000 in
theorem ok105 : con105.Ok Try.prog:=Con.of_goal mixed okN con105 goal105
theorem inR_7' {p : Int} (hp : isP p) {x : TripD} (h : inR p x) : inR 7 x:=by
 have h7:=isP_bd hp
 exact ⟨⟨h.1.1,by have:=h.1.2;omega⟩,⟨h.2.1.1,by have:=h.2.1.2;omega⟩,⟨h.2.2.1,by have:=h.2.2.2;omega⟩⟩
theorem goal103 : con103.goal Try.prog (spOf [con105,conMod]) g103_sh [] lm30:=by
 have e : (∀ (k : PlaneD) (c : A6D) (a:Int),isPl k → inS k.1 c → inPt k.1 a = true → g103 k c a = some (onC k.1 c a,())) = con103.goal Try.prog (spOf [con105,conMod]) g103_sh [] lm30:=by kernel_rfl
 rw [← e]
 rintro k ⟨c1,c2,c3,c4,c5,c6,⟨⟩⟩ a hk ⟨h1,h2,h3,h4,h5,h6⟩ ha
 simp only at h1 h2 h3 h4 h5 h6
 have hp:=hk.1
 have h7:=isP_bd hp
 have i1:=inPt_iff.1 ha
 have hl:=pts_len k.1 (isP_mem hp)
 have l1 : a < ((ptsC k.1).length:Int):=by omega
 have hx:=inR_7' hp (pt_in hp ha)
 have hpts:=pl_pts hk
 have w1 : wr .i64 1 = 1:=by decide
 have w2 : wr .i64 2 = 2:=by decide
 have w3 : wr .i64 3 = 3:=by decide
 have w4 : wr .i64 4 = 4:=by decide
 have w5 : wr .i64 5 = 5:=by decide
 have w6 : wr .i64 6 = 6:=by decide
 unfold g103
 simp only [hpts,show List.getD (ptsC k.1) (Int.toNat a) ((0,0,0,()) : TripD) = pt k.1 a from rfl]
 rw [gd_pos ⟨i1.1,l1⟩]
 refine (gd_pos hx).trans ?_
 unfold onC
 generalize pt k.1 a = P at hx
 obtain ⟨x,y,z,⟨⟩⟩:=P
 obtain ⟨hx,hy,hz⟩:=hx
 simp only at hx hy hz
 have b1:=mulB7 hx hx
 have b2:=mulB7 hy hy
 have b3:=mulB7 hz hz
 have b4:=mulB7 hx hy
 have b5:=mulB7 hx hz
 have b6:=mulB7 hy hz
 have m {c q : Int} (hc : 0 ≤ c ∧ c < k.1) (hq : 0 ≤ q ∧ q ≤ 36) : 0 ≤ c * q ∧ c * q ≤ 36 * 36:=mul_bd ⟨hc.1,by omega⟩ hq
 have d1:=m h1 b1
 have d2:=m h2 b2
 have d3:=m h3 b3
 have d4:=m h4 b4
 have d5:=m h5 b5
 have d6:=m h6 b6
 simp only [quad]
 generalize hq1 : c1 * (x * x) = q1 at *
 generalize hq2 : c2 * (y * y) = q2 at *
 generalize hq3 : c3 * (z * z) = q3 at *
 generalize hq4 : c4 * (x * y) = q4 at *
 generalize hq5 : c5 * (x * z) = q5 at *
 generalize hq6 : c6 * (y * z) = q6 at *
 have v1 : wr .i64 q1 = q1:=wr_id (by omega)
 have v2 : wr .i64 q2 = q2:=wr_id (by omega)
 have v3 : wr .i64 q3 = q3:=wr_id (by omega)
 have v4 : wr .i64 q4 = q4:=wr_id (by omega)
 have v5 : wr .i64 q5 = q5:=wr_id (by omega)
 have v6 : wr .i64 q6 = q6:=wr_id (by omega)
 have s2 : wr .i64 (q1 + q2) = q1 + q2:=wr_id (by omega)
 have s3 : wr .i64 (q1 + q2 + q3) = q1 + q2 + q3:=wr_id (by omega)
 have s4 : wr .i64 (q1 + q2 + q3 + q4) = q1 + q2 + q3 + q4:=wr_id (by omega)
 have s5 : wr .i64 (q1 + q2 + q3 + q4 + q5) = q1 + q2 + q3 + q4 + q5:=wr_id (by omega)
 have s6 : wr .i64 (q1 + q2 + q3 + q4 + q5 + q6) = q1 + q2 + q3 + q4 + q5 + q6:=wr_id (by omega)
 have hm : modF k.1 (q1 + q2 + q3 + q4 + q5 + q6) = (q1 + q2 + q3 + q4 + q5 + q6) % k.1:=modF_eq (by omega)
 have hk0 : k.1 ≠ 0:=by omega
 refine (whileO_go (s':=((q1,1,[c1,c2,c3,c4,c5,c6],()) : Int × Int × List Int × Unit)) ?_).trans ?_
 ·simp [ilt,gd_true,arrGet,id,powF,w1,hq1,v1]
 refine (whileO_go (s':=((q1 + q2,2,[c1,c2,c3,c4,c5,c6],()) : Int × Int × List Int × Unit)) ?_).trans ?_
 ·simp [ilt,gd_true,arrGet,id,powF,w2,hq2,v2,s2]
 refine (whileO_go (s':=((q1 + q2 + q3,3,[c1,c2,c3,c4,c5,c6],()) : Int × Int × List Int × Unit)) ?_).trans ?_
 ·simp [ilt,gd_true,arrGet,id,powF,w3,hq3,v3,s3]
 refine (whileO_go (s':=((q1 + q2 + q3 + q4,4,[c1,c2,c3,c4,c5,c6],()) : Int × Int × List Int × Unit)) ?_).trans ?_
 ·simp [ilt,gd_true,arrGet,id,powF,w4,hq4,v4,s4]
 refine (whileO_go (s':=((q1 + q2 + q3 + q4 + q5,5,[c1,c2,c3,c4,c5,c6],()) : Int × Int × List Int × Unit)) ?_).trans ?_
 ·simp [ilt,gd_true,arrGet,id,powF,w5,hq5,v5,s5]
 refine (whileO_go (s':=((q1 + q2 + q3 + q4 + q5 + q6,6,[c1,c2,c3,c4,c5,c6],()) : Int × Int × List Int × Unit)) ?_).trans ?_
 ·simp [ilt,gd_true,arrGet,id,powF,w6,hq6,v6,s6]
 refine whileO_out ?_
 refine (cond_f rfl).trans ?_
 rw [gd_pos hk0,hm]
set_option maxRecDepth 100000 in
theorem ok103 : con103.Ok Try.prog:=Con.of_goal mixed (okC ok105 (okC okMod okN)) con103 goal103
theorem goal100 : con100.goal Try.prog (spOf []) g100_sh [] lm30:=by
 have e : (∀ (x:Int),g100 x = some (!ieq x 0,())) = con100.goal Try.prog (spOf []) g100_sh [] lm30:=by kernel_rfl
 rw [← e]
 intro x
 rfl
set_option maxRecDepth 100000 in
theorem ok100 : con100.Ok Try.prog:=Con.of_goal mixed okN con100 goal100
theorem goal99c : con99c.goal Try.prog (spOf [con100]) g99c_sh [] lm30:=by
 have e : (∀ (l:List Int),small l → g99c l = some (nzI l 0,())) = con99c.goal Try.prog (spOf [con100]) g99c_sh [] lm30:=by kernel_rfl
 rw [← e]
 intro l hs
 unfold small at hs
 unfold g99c
 have key : ∀ (n i:Nat),i + n = l.length → whileO (fun (d1 : Int × Unit)=>bif ilt d1.1 (l.length:Int) then gd (0 ≤ d1.1 ∧ d1.1 < (l.length:Int)) (bif !ieq (List.getD l (Int.toNat d1.1) 0) 0 then some (Lp.out ((d1.1,()) : Int × Unit)) else some (Lp.go ((wr .i64 (d1.1 + 1),()) : Int × Unit))) else some (Lp.out ((-1,()) : Int × Unit))) (((i:Int),()) : Int × Unit) = some (nzI (l.drop i) i,()):=by
  intro n
  induction n with
  | zero =>
   intro i hi
   have : i = l.length:=by omega
   subst this
   rw [List.drop_length]
   exact whileO_out (cond_f (ilt_false.2 (Int.le_refl _)))
  | succ n ih =>
   intro i hi
   have hil : i < l.length:=by omega
   have ed : l.drop i = l.getD i 0 :: l.drop (i + 1):=by rw [List.drop_eq_getElem_cons hil,gd_at hil]
   rw [ed]
   by_cases h0 : l.getD i 0 = 0
   ·rw [show nzI (l.getD i 0 :: l.drop (i + 1)) i = nzI (l.drop (i + 1)) (i + 1) from if_pos h0]
    refine (whileO_go ((cond_t (ilt_iff.2 (Int.ofNat_lt.2 hil))).trans ((gd_pos ⟨Int.natCast_nonneg _,Int.ofNat_lt.2 hil⟩).trans ((cond_f ?_).trans ?_)))).trans (ih (i + 1) (by omega))
    ·show (!ieq (l.getD i 0) 0) = false
     rw [ieq_iff.2 h0];rfl
    ·show some (Lp.go ((wr .i64 ((i:Int) + 1),()) : Int × Unit)) = _
     rw [cast1 (by omega)]
   ·rw [show nzI (l.getD i 0 :: l.drop (i + 1)) i = (i:Int) from if_neg h0]
    refine whileO_out ((cond_t (ilt_iff.2 (Int.ofNat_lt.2 hil))).trans ((gd_pos ⟨Int.natCast_nonneg _,Int.ofNat_lt.2 hil⟩).trans (cond_t ?_)))
    show (!ieq (l.getD i 0) 0) = true
    rw [Bool.not_eq_true',Bool.eq_false_iff]
    exact fun h=>h0 (ieq_iff.1 h)
 exact key l.length 0 (Nat.zero_add _)
set_option maxRecDepth 100000 in
theorem ok99c : con99c.Ok Try.prog:=Con.of_goal mixed (okC ok100 okN) con99c goal99c
theorem len6 {l : List Int} (h : l.length = 6) : ∃ a b c d e f,l = [a,b,c,d,e,f]:=by
 match l,h with
 | [a,b,c,d,e,f],_=>exact ⟨a,b,c,d,e,f,rfl⟩
theorem goal101 : con101.goal Try.prog (spOf []) g101_sh [] lm30:=by
 have e : (∀ (l:List Int),l.length = 6 → g101 l = some ((l.drop 1).foldl imin (l.getD 0 0),())) = con101.goal Try.prog (spOf []) g101_sh [] lm30:=by kernel_rfl
 rw [← e]
 intro l hl
 obtain ⟨a,b,c,d,e,f,rfl⟩:=len6 hl
 have w2 : wr .i64 2 = 2:=by decide
 have w3 : wr .i64 3 = 3:=by decide
 have w4 : wr .i64 4 = 4:=by decide
 have w5 : wr .i64 5 = 5:=by decide
 have w6 : wr .i64 6 = 6:=by decide
 unfold g101
 simp only [List.length_cons,List.length_nil]
 refine (cond_f (by decide)).trans ?_
 rw [gd_pos (by decide)]
 refine (whileO_go (s':=((imin a b,2,()) : Int × Int × Unit)) ?_).trans ?_
 ·simp [ilt,gd_true,w2]
 refine (whileO_go (s':=((imin (imin a b) c,3,()) : Int × Int × Unit)) ?_).trans ?_
 ·simp [ilt,gd_true,w3]
 refine (whileO_go (s':=((imin (imin (imin a b) c) d,4,()) : Int × Int × Unit)) ?_).trans ?_
 ·simp [ilt,gd_true,w4]
 refine (whileO_go (s':=((imin (imin (imin (imin a b) c) d) e,5,()) : Int × Int × Unit)) ?_).trans ?_
 ·simp [ilt,gd_true,w5]
 refine (whileO_go (s':=((imin (imin (imin (imin (imin a b) c) d) e) f,6,()) : Int × Int × Unit)) ?_).trans ?_
 ·simp [ilt,gd_true,w6]
 refine whileO_out ?_
 exact cond_f rfl
set_option maxRecDepth 100000 in
theorem ok101 : con101.Ok Try.prog:=Con.of_goal mixed okN con101 goal101
theorem goal102 : con102.goal Try.prog (spOf []) g102_sh [] lm30:=by
 have e : (∀ (l:List Int),l.length = 6 → g102 l = some ((l.drop 1).foldl imax (l.getD 0 0),())) = con102.goal Try.prog (spOf []) g102_sh [] lm30:=by kernel_rfl
 rw [← e]
 intro l hl
 obtain ⟨a,b,c,d,e,f,rfl⟩:=len6 hl
 have w2 : wr .i64 2 = 2:=by decide
 have w3 : wr .i64 3 = 3:=by decide
 have w4 : wr .i64 4 = 4:=by decide
 have w5 : wr .i64 5 = 5:=by decide
 have w6 : wr .i64 6 = 6:=by decide
 unfold g102
 simp only [List.length_cons,List.length_nil]
 refine (cond_f (by decide)).trans ?_
 rw [gd_pos (by decide)]
 refine (whileO_go (s':=((imax a b,2,()) : Int × Int × Unit)) ?_).trans ?_
 ·simp [ilt,gd_true,w2]
 refine (whileO_go (s':=((imax (imax a b) c,3,()) : Int × Int × Unit)) ?_).trans ?_
 ·simp [ilt,gd_true,w3]
 refine (whileO_go (s':=((imax (imax (imax a b) c) d,4,()) : Int × Int × Unit)) ?_).trans ?_
 ·simp [ilt,gd_true,w4]
 refine (whileO_go (s':=((imax (imax (imax (imax a b) c) d) e,5,()) : Int × Int × Unit)) ?_).trans ?_
 ·simp [ilt,gd_true,w5]
 refine (whileO_go (s':=((imax (imax (imax (imax (imax a b) c) d) e) f,6,()) : Int × Int × Unit)) ?_).trans ?_
 ·simp [ilt,gd_true,w6]
 refine whileO_out ?_
 exact cond_f rfl
set_option maxRecDepth 100000 in
theorem ok102 : con102.Ok Try.prog:=Con.of_goal mixed okN con102 goal102
end Go.Arcs
namespace Go.Arcs
open Go Go.Ab Go.Proofs
theorem nzI_rng : ∀ (l:List Int) (i:Int),nzI l i = -1 ∨ (i ≤ nzI l i ∧ nzI l i < i + l.length)
 | [],i=>.inl rfl
 | x :: l,i=>by
  unfold nzI
  by_cases h : x = 0
  ·rw [if_pos h]
   rcases nzI_rng l (i + 1) with g | g
   ·exact .inl g
   ·exact .inr (by rw [List.length_cons];omega)
  ·rw [if_neg h]
   exact .inr (by rw [List.length_cons];omega)
theorem ilt_min {a b k : Int} : ilt (imin a b) k = (ilt a k || ilt b k):=by
 rw [Bool.eq_iff_iff,Bool.or_eq_true,ilt_iff,ilt_iff,ilt_iff]
 unfold imin
 split <;> omega
theorem ile_max {a b k : Int} : ile k (imax a b) = (ile k a || ile k b):=by
 rw [Bool.eq_iff_iff]
 simp only [Bool.or_eq_true,ile,decide_eq_true_eq]
 unfold imax
 split <;> omega
theorem rng_not {x p : Int} : (decide (0 ≤ x) && decide (x < p)) = !(ilt x 0 || ile p x):=by
 rw [Bool.eq_iff_iff]
 simp only [Bool.and_eq_true,Bool.not_eq_true',Bool.or_eq_false_iff,ilt,ile,decide_eq_true_eq,decide_eq_false_iff_not]
 omega
theorem cur_cond {p : Int} {c : A6D} : (l6 c).all (fun x=>decide (0 ≤ x) && decide (x < p)) =
  !(ilt (List.foldl imin c.1 [c.2.1,c.2.2.1,c.2.2.2.1,c.2.2.2.2.1,c.2.2.2.2.2.1]) 0 || ile p (List.foldl imax c.1 [c.2.1,c.2.2.1,c.2.2.2.1,c.2.2.2.2.1,c.2.2.2.2.2.1])):=by
 simp only [l6,List.all_cons,List.all_nil,Bool.and_true,List.foldl_cons,List.foldl_nil,ilt_min,ile_max,rng_not]
 generalize ilt c.1 0 = a1
 generalize ilt c.2.1 0 = a2
 generalize ilt c.2.2.1 0 = a3
 generalize ilt c.2.2.2.1 0 = a4
 generalize ilt c.2.2.2.2.1 0 = a5
 generalize ilt c.2.2.2.2.2.1 0 = a6
 generalize ile p c.1 = b1
 generalize ile p c.2.1 = b2
 generalize ile p c.2.2.1 = b3
 generalize ile p c.2.2.2.1 = b4
 generalize ile p c.2.2.2.2.1 = b5
 generalize ile p c.2.2.2.2.2.1 = b6
 revert a1 a2 a3 a4 a5 a6 b1 b2 b3 b4 b5 b6
 decide +kernel
theorem isC_parts {p : Int} {c : A6D} (h : isCb p c = true) : isPb p = true ∧ inS p c ∧ 0 ≤ nzI (l6 c) 0 ∧ (l6 c).getD (nzI (l6 c) 0).toNat 0 = 1:=by
 simp only [isCb,Bool.and_eq_true,decide_eq_true_eq,ieq_iff] at h
 obtain ⟨⟨⟨h1,h2⟩,h3⟩,h4⟩:=h
 refine ⟨h1,?_,h3,h4⟩
 simp only [l6,List.all_cons,List.all_nil,Bool.and_true,Bool.and_eq_true,decide_eq_true_eq] at h2
 exact h2
end Go.Arcs
namespace Go.Arcs
open Go Go.Ab Go.Proofs
def pol (c : A6D) (x y : TripD) : Int:=quad c (x.1 + y.1,x.2.1 + y.2.1,x.2.2.1 + y.2.2.1,()) - quad c x - quad c y
end Go.Arcs
namespace Go.Arcs
open Go Go.Ab Go.Proofs
theorem str_sw {p a b c : Int} (hp : isP p) : strF p b a c = strF p a b c:=by
 rw [Bool.eq_iff_iff,str_trip hp,str_trip hp,trip_swap,Int.dvd_neg]
theorem str_ro {p a b c : Int} (hp : isP p) : strF p b c a = strF p a b c:=by
 rw [Bool.eq_iff_iff,str_trip hp,str_trip hp,trip_rot]
theorem arc_any {p : Int} (hp : isP p) {l : List Int} (h : arcF p l = true) {a b c : Int} (ha : a ∈ l) (hb : b ∈ l) (hc : c ∈ l) (hab : a ≠ b) (hac : a ≠ c) (hbc : b ≠ c) : strF p a b c = false:=by
 simp only [arcF,List.all_eq_true,List.mem_range,Bool.not_eq_true'] at h
 obtain ⟨i,hi,rfl⟩:=List.getElem_of_mem ha
 obtain ⟨j,hj,rfl⟩:=List.getElem_of_mem hb
 obtain ⟨k,hk,rfl⟩:=List.getElem_of_mem hc
 have go : ∀ i j k (hi : i < l.length) (hj : j < l.length) (hk : k < l.length),i < j → j < k → strF p l[i] l[j] l[k] = false:=fun i j k hi hj hk h1 h2=>by
  have:=h k hk j h2 i h1
  rwa [gd_at hi,gd_at hj,gd_at hk] at this
 have nij : i ≠ j:=fun e=>hab (by subst e;rfl)
 have nik : i ≠ k:=fun e=>hac (by subst e;rfl)
 have njk : j ≠ k:=fun e=>hbc (by subst e;rfl)
 rcases Nat.lt_or_gt_of_ne nij with h1 | h1 <;> rcases Nat.lt_or_gt_of_ne njk with h2 | h2
 ·exact go i j k hi hj hk h1 h2
 ·rcases Nat.lt_or_gt_of_ne nik with h3 | h3
  ·have:=go i k j hi hk hj h3 h2
   rw [← str_sw hp,← str_ro hp] at this
   first | exact this | (rw [← str_ro hp];exact this) | (rw [← str_ro hp,← str_ro hp];exact this)
  ·have:=go k i j hk hi hj h3 h1
   rw [← str_ro hp] at this
   exact this
 ·rcases Nat.lt_or_gt_of_ne nik with h3 | h3
  ·have:=go j i k hj hi hk h1 h3
   rw [← str_sw hp] at this
   exact this
  ·have:=go j k i hj hk hi h2 h3
   rw [← str_ro hp,← str_ro hp] at this
   exact this
 ·have:=go k j i hk hj hi h2 h1
  rw [← str_sw hp,← str_ro hp,← str_ro hp] at this
  first | exact this | (rw [← str_ro hp];exact this) | (rw [← str_ro hp,← str_ro hp];exact this)
end Go.Arcs
namespace Go.Arcs
open Go Go.Ab Go.Proofs
theorem six {l : List Int} (h : 6 ≤ l.length) : ∃ a b c d e f r,l = a :: b :: c :: d :: e :: f :: r:=by
 match l,h with
 | a :: b :: c :: d :: e :: f :: r,_=>exact ⟨a,b,c,d,e,f,r,rfl⟩
theorem ris_nd : ∀ {l : List Int},ris l = true → l.Nodup
 | [],_=>List.nodup_nil
 | x :: l,h=>by
  obtain ⟨h1,h2⟩:=ris_cons h
  exact List.nodup_cons.2 ⟨fun hx=>by have:=h2 x hx;omega,ris_nd h1⟩
end Go.Arcs
