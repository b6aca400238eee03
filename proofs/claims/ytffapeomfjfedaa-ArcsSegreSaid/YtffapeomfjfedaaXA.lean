/- Contracts of the plane's arithmetic. -/
import Derived.Test.YtffapeomfjfedaaProg
import Derived.Test.YtffapeomfjfedaaAR
set_option linter.unusedVariables false
set_option linter.unusedSimpArgs false
namespace Go.Arcs
open Go Go.Ab Go.Proofs
abbrev I64 : Ty:=.int .i64
abbrev Trip : Ty:=.prod I64 (.prod I64 (.prod I64 .unit))
abbrev Plane : Ty:=.prod I64 (.prod (.slice Trip) (.prod (.map Trip I64) .unit))
abbrev TripD:=Int × Int × Int × Unit
abbrev PlaneD:=Int × List TripD × List (TripD × Int) × Unit
noncomputable def modF (p n:Int) : Int:=Int.tmod (wr .i64 (n.tmod p + p)) p
noncomputable def conMod : Con:=mkC 73 [.d (.ptr Plane),.d I64] [I64] (fun (k : PlaneD) (n:Int)=>[k.1 ≠ 0]) (fun (k : PlaneD) (n:Int)=>(modF k.1 n,()))
noncomputable def g73 (x0 : Int × List (Int × Int × Int × Unit) × List ((Int × Int × Int × Unit) × Int) × Unit) (x1:Int) : Option (Int × Unit):=gd (x0.1 ≠ 0) (gd (x0.1 ≠ 0) (some ((Int.tmod (wr .i64 (Int.tmod x1 x0.1 + x0.1)) x0.1,()) : Int × Unit)))
noncomputable def g73_sh : List LSh:=[]
noncomputable def g114 (x0 : Int × List (Int × Int × Int × Unit) × List ((Int × Int × Int × Unit) × Int) × Unit) (x1 x2 : Int × Int × Int × Unit) : Option (Int × Unit):=gd ((0:Nat) < 3) (gd ((0:Nat) < 3) (gd ((1:Nat) < 3) (gd ((1:Nat) < 3) (gd ((2:Nat) < 3) (gd ((2:Nat) < 3) (gd (x0.1 ≠ 0) (some ((modF x0.1 (wr .i64 (wr .i64 (wr .i64 (x1.1 * x2.1) + wr .i64 (x1.2.1 * x2.2.1)) + wr .i64 (x1.2.2.1 * x2.2.2.1))),()) : Int × Unit))))))))
noncomputable def g114_sh : List LSh:=[]
noncomputable def nz (n:Int) : Bool:=!ieq n 0
noncomputable def con117 : Con:=mkC 117 [.d I64] [.bool] (fun (_:Int)=>[]) (fun (n:Int)=>(nz n,()))
noncomputable def g117 (x0:Int) : Option (Bool × Unit):=some ((!ieq x0 0,()) : Bool × Unit)
noncomputable def g117_sh : List LSh:=[]
noncomputable def ixFrom : List Int → Int → Int
 | [],_=>-1
 | x :: l,i=>if nz x = true then i else ixFrom l (i + 1)
noncomputable def ixF (l:List Int) : Int:=ixFrom l 0
def small {α : Type} (l : List α) : Prop:=(l.length:Int) < 4611686018427387904
noncomputable def con99 : Con:=mkC 99 [.d (.slice I64),.fn 117 []] [I64] (fun (l:List Int)=>[small l]) (fun (l:List Int)=>(ixF l,()))
noncomputable def g99 (x0:List Int) : Option (Int × Unit):=whileO (fun (d1 : Int × Unit)=>bif ilt d1.1 (↑(List.length x0):Int) then gd (0 ≤ d1.1 ∧ d1.1 < (↑(List.length x0):Int)) (bif nz (List.getD x0 (Int.toNat d1.1) 0) then some (Lp.out ((d1.1,()) : Int × Unit)) else some (Lp.go ((wr .i64 (d1.1 + 1),()) : Int × Unit))) else some (Lp.out (((-1:Int),()) : Int × Unit))) ((0,()) : Int × Unit)
noncomputable def g99_sh : List LSh:=[LSh.mk [((1,TV.fn (117) TV.nil) : Nat × TV),((8,TV.v (Ty.int IntKind.i64)) : Nat × TV)] []]
def isP (p:Int) : Prop:=p = 2 ∨ p = 3 ∨ p = 5 ∨ p = 7
def rngP (p n:Int) : Prop:=0 < n ∧ n < p
noncomputable def invF (p n:Int) : Int:=(([1,2,3,4,5,6]:List Int).find? fun x=>(x * n) % p == 1).getD 0
noncomputable def conInv : Con:=mkC 74 [.d (.ptr Plane),.d I64] [I64] (fun (k : PlaneD) (n:Int)=>[isP k.1,rngP k.1 n]) (fun (k : PlaneD) (n:Int)=>(invF k.1 n,()))
noncomputable def g74 (x0 : Int × List (Int × Int × Int × Unit) × List ((Int × Int × Int × Unit) × Int) × Unit) (x1:Int) : Option (Int × Unit):=whileO (fun (d2 : Int × Unit)=>gd (x0.1 ≠ 0) (bif !ieq (modF x0.1 (wr .i64 (d2.1 * x1))) 1 then some (Lp.go ((wr .i64 (d2.1 + 1),()) : Int × Unit)) else some (Lp.out ((d2.1,()) : Int × Unit)))) ((1,()) : Int × Unit)
noncomputable def g74_sh : List LSh:=[LSh.mk [((5,TV.v (Ty.int IntKind.i64)) : Nat × TV)] []]
theorem mixed : Try.prog.follows .mixedOrders = true:=by kernel_rfl
theorem goal73 : conMod.goal Try.prog (spOf []) g73_sh [] lm30:=by
 have e : (∀ (k : PlaneD) (n:Int),k.1 ≠ 0 → g73 k n = some (modF k.1 n,())) = conMod.goal Try.prog (spOf []) g73_sh [] lm30:=by kernel_rfl
 rw [← e]
 intro k n h
 simp only [g73,gd_pos h,modF]
set_option maxRecDepth 100000 in
theorem okMod : conMod.Ok Try.prog:=Con.of_goal mixed okN conMod goal73
theorem goal117 : con117.goal Try.prog (spOf []) g117_sh [] lm30:=by
 have e : (∀ n : Int,g117 n = some (nz n,())) = con117.goal Try.prog (spOf []) g117_sh [] lm30:=by kernel_rfl
 rw [← e]
 exact fun n=>rfl
set_option maxRecDepth 100000 in
theorem ok117 : con117.Ok Try.prog:=Con.of_goal mixed okN con117 goal117
theorem goal99 : con99.goal Try.prog (spOf [con117]) g99_sh [] lm30:=by
 have e : (∀ l : List Int,small l → g99 l = some (ixF l,())) = con99.goal Try.prog (spOf [con117]) g99_sh [] lm30:=by kernel_rfl
 rw [← e]
 intro l hs
 unfold small at hs
 unfold g99
 refine whileO_rec (fun (d : Int × Unit)=>0 ≤ d.1 ∧ d.1 ≤ l.length) (fun (d : Int × Unit)=>l.length - d.1.toNat) (fun (d : Int × Unit)=>(ixFrom (l.drop d.1.toNat) d.1,())) ?_ ((0:Int),()) ⟨by omega,by omega⟩
 rintro ⟨i,_⟩ ⟨h0,h1⟩
 simp only at h0 h1 ⊢
 by_cases hlt : i < l.length
 ·have hn : i.toNat < l.length:=by omega
  have ht : (i + 1).toNat = i.toNat + 1:=by omega
  rw [cond_t (ilt_iff.2 hlt),gd_pos ⟨h0,hlt⟩,getD_at hn,List.drop_eq_getElem_cons hn]
  by_cases hz : nz l[i.toNat] = true
  ·left;rw [cond_t hz,ixFrom,if_pos hz]
  ·right
   have hz' : nz l[i.toNat] = false:=by simpa using hz
   refine ⟨_,by rw [cond_f hz',wr_id (by omega)],⟨by simp only;omega,by simp only;omega⟩,by simp only;omega,?_⟩
   rw [ixFrom,if_neg hz]
   simp only [ht]
 ·left
  have : i.toNat = l.length:=by omega
  rw [cond_f (ilt_false.2 (by omega)),this,List.drop_length]
  rfl
set_option maxRecDepth 100000 in
theorem ok99 : con99.Ok Try.prog:=Con.of_goal mixed (okC ok117 okN) con99 goal99
theorem inv_all : ∀ p ∈ ([2,3,5,7]:List Int),∀ n ∈ ([1,2,3,4,5,6]:List Int),n < p → 1 ≤ invF p n ∧ invF p n ≤ 6 ∧ ∀ x ∈ ([1,2,3,4,5,6]:List Int),x ≤ invF p n → ieq (modF p (wr .i64 (x * n))) 1 = ieq x (invF p n):=by decide
theorem isP_mem {p : Int} (h : isP p) : p ∈ ([2,3,5,7]:List Int):=by
 rcases h with rfl | rfl | rfl | rfl <;> decide
theorem six_mem {n : Int} (h : 1 ≤ n ∧ n ≤ 6) : n ∈ ([1,2,3,4,5,6]:List Int):=by
 have : n = 1 ∨ n = 2 ∨ n = 3 ∨ n = 4 ∨ n = 5 ∨ n = 6:=by omega
 rcases this with rfl | rfl | rfl | rfl | rfl | rfl <;> decide
theorem isP_bd {p : Int} (h : isP p) : 2 ≤ p ∧ p ≤ 7:=by rcases h with rfl | rfl | rfl | rfl <;> decide
theorem inv_spec {p n : Int} (hp : isP p) (hn : rngP p n) : 1 ≤ invF p n ∧ invF p n ≤ 6 ∧ ∀ x,1 ≤ x → x ≤ invF p n → ieq (modF p (wr .i64 (x * n))) 1 = ieq x (invF p n):=by
 have h7:=(isP_bd hp).2
 obtain ⟨h1,h2⟩:=hn
 obtain ⟨g1,g2,g3⟩:=inv_all p (isP_mem hp) n (six_mem ⟨by omega,by omega⟩) h2
 exact ⟨g1,g2,fun x hx1 hx2=>g3 x (six_mem ⟨hx1,by omega⟩) hx2⟩
theorem goal74 : conInv.goal Try.prog (spOf [conMod]) g74_sh [] lm30:=by
 have e : (∀ (k : PlaneD) (n:Int),isP k.1 → rngP k.1 n → g74 k n = some (invF k.1 n,())) = conInv.goal Try.prog (spOf [conMod]) g74_sh [] lm30:=by kernel_rfl
 rw [← e]
 intro k n hp hn
 obtain ⟨g1,g2,g3⟩:=inv_spec hp hn
 have h2:=isP_bd hp
 unfold g74
 refine whileO_rec (fun (d : Int × Unit)=>1 ≤ d.1 ∧ d.1 ≤ invF k.1 n) (fun (d : Int × Unit)=>(invF k.1 n - d.1).toNat) (fun (d : Int × Unit)=>(invF k.1 n,())) ?_ ((1:Int),()) ⟨by omega,by simp only;omega⟩
 rintro ⟨i,_⟩ ⟨h0,h1⟩
 simp only at h0 h1 ⊢
 rw [gd_pos (by omega),g3 i h0 h1]
 by_cases he : i = invF k.1 n
 ·left
  rw [cond_f (by simp [ieq,he]),he]
 ·right
  refine ⟨_,by rw [cond_t (by simp [ieq,he]),wr_id (by omega)],⟨by simp only;omega,by simp only;omega⟩,by simp only;omega,by trivial⟩
set_option maxRecDepth 100000 in
theorem okInv : conInv.Ok Try.prog:=Con.of_goal mixed (okC okMod okN) conInv goal74
end Go.Arcs
namespace Go.Arcs
open Go Go.Ab Go.Proofs
def inR (p:Int) (x : TripD) : Prop:=(0 ≤ x.1 ∧ x.1 < p) ∧ (0 ≤ x.2.1 ∧ x.2.1 < p) ∧ (0 ≤ x.2.2.1 ∧ x.2.2.1 < p)
def notO (x : TripD) : Prop:=¬(x.1 = 0 ∧ x.2.1 = 0 ∧ x.2.2.1 = 0)
def firstF (x : TripD) : Int:=if x.1 ≠ 0 then x.1 else if x.2.1 ≠ 0 then x.2.1 else x.2.2.1
noncomputable def lowF (p:Int) (x : TripD) : TripD:=(x.1 * invF p (firstF x) % p,x.2.1 * invF p (firstF x) % p,x.2.2.1 * invF p (firstF x) % p,())
noncomputable def conLow : Con:=mkC 83 [.d (.ptr Plane),.d Trip] [Trip] (fun (k : PlaneD) (x : TripD)=>[isP k.1,inR k.1 x,notO x]) (fun (k : PlaneD) (x : TripD)=>(lowF k.1 x,()))
noncomputable def g83 (x0 : Int × List (Int × Int × Int × Unit) × List ((Int × Int × Int × Unit) × Int) × Unit) (x1 : Int × Int × Int × Unit) : Option ((Int × Int × Int × Unit) × Unit):=gd ((3:Nat) ≤ 3) (gd (small [x1.1,x1.2.1,x1.2.2.1]) (gd (0 ≤ ixF [x1.1,x1.2.1,x1.2.2.1] ∧ ixF [x1.1,x1.2.1,x1.2.2.1] < 3) (gd (0 + Int.toNat (ixF [x1.1,x1.2.1,x1.2.2.1]) * (1:Nat) < 3) (gd (isP x0.1) (gd (rngP x0.1 (List.getD [x1.1,x1.2.1,x1.2.2.1] (0 + Int.toNat (ixF [x1.1,x1.2.1,x1.2.2.1]) * 1) 0)) (whileO (fun (d2 : Int × List Int × List Int × Unit)=>bif ilt d2.1 3 then gd (0 ≤ d2.1 ∧ d2.1 < 3) (gd (0 + Int.toNat d2.1 * 1 < List.length d2.2.1) (gd (x0.1 ≠ 0) (gd (0 ≤ d2.1 ∧ d2.1 < 3) (gd (0 + Int.toNat d2.1 * 1 < List.length d2.2.1) (some (Lp.go ((wr .i64 (d2.1 + 1),List.set d2.2.1 (0 + Int.toNat d2.1 * 1) (modF x0.1 (wr .i64 (List.getD d2.2.1 (0 + Int.toNat d2.1 * 1) 0 * invF x0.1 (List.getD [x1.1,x1.2.1,x1.2.2.1] (0 + Int.toNat (ixF [x1.1,x1.2.1,x1.2.2.1]) * 1) 0)))),d2.2.2.1,()) : Int × List Int × List Int × Unit))))))) else gd (3 ≤ List.length d2.2.1) (gd (3 ≤ List.length d2.2.2.1) (gd (3 ≤ List.length (setMany d2.2.2.1 0 [List.getD d2.2.1 0 0,List.getD d2.2.1 1 0,List.getD d2.2.1 2 0])) (some (Lp.out ((((List.getD (setMany d2.2.2.1 0 [List.getD d2.2.1 0 0,List.getD d2.2.1 1 0,List.getD d2.2.1 2 0]) 0 0,List.getD (setMany d2.2.2.1 0 [List.getD d2.2.1 0 0,List.getD d2.2.1 1 0,List.getD d2.2.1 2 0]) 1 0,List.getD (setMany d2.2.2.1 0 [List.getD d2.2.1 0 0,List.getD d2.2.1 1 0,List.getD d2.2.1 2 0]) 2 0,()) : Int × Int × Int × Unit),()) : (Int × Int × Int × Unit) × Unit)))))) ((0,[x1.1,x1.2.1,x1.2.2.1],[0,0,0],()) : Int × List Int × List Int × Unit)))))))
noncomputable def g83_sh : List LSh:=[LSh.mk [((3,TV.ref (0) 1 0 0) : Nat × TV),((4,TV.ref (1) 1 0 0) : Nat × TV),((15,TV.v (Ty.int IntKind.i64)) : Nat × TV)] [TB.arr (Ty.int IntKind.i64) false,TB.arr (Ty.int IntKind.i64) false]]
def crossF (p:Int) (x y : TripD) : TripD:=((x.2.1 * y.2.2.1 - x.2.2.1 * y.2.1) % p,(x.2.2.1 * y.1 - x.1 * y.2.2.1) % p,(x.1 * y.2.1 - x.2.1 * y.1) % p,())
noncomputable def conCross : Con:=mkC 113 [.d (.ptr Plane),.d Trip,.d Trip] [Trip] (fun (k : PlaneD) (x y : TripD)=>[isP k.1,inR k.1 x,inR k.1 y]) (fun (k : PlaneD) (x y : TripD)=>(crossF k.1 x y,()))
noncomputable def g113 (x0 : Int × List (Int × Int × Int × Unit) × List ((Int × Int × Int × Unit) × Int) × Unit) (x1 x2 : Int × Int × Int × Unit) : Option ((Int × Int × Int × Unit) × Unit):=gd ((1:Nat) < 3) (gd ((2:Nat) < 3) (gd ((2:Nat) < 3) (gd ((1:Nat) < 3) (gd (x0.1 ≠ 0) (gd ((2:Nat) < 3) (gd ((0:Nat) < 3) (gd ((0:Nat) < 3) (gd ((2:Nat) < 3) (gd (x0.1 ≠ 0) (gd ((0:Nat) < 3) (gd ((1:Nat) < 3) (gd ((1:Nat) < 3) (gd ((0:Nat) < 3) (gd (x0.1 ≠ 0) (gd ((3:Nat) ≤ 3) (gd ((3:Nat) ≤ 3) (some ((((modF x0.1 (wr .i64 (wr .i64 (x1.2.1 * x2.2.2.1) - wr .i64 (x1.2.2.1 * x2.2.1))),modF x0.1 (wr .i64 (wr .i64 (x1.2.2.1 * x2.1) - wr .i64 (x1.1 * x2.2.2.1))),modF x0.1 (wr .i64 (wr .i64 (x1.1 * x2.2.1) - wr .i64 (x1.2.1 * x2.1))),()) : Int × Int × Int × Unit),()) : (Int × Int × Int × Unit) × Unit))))))))))))))))))
noncomputable def g113_sh : List LSh:=[]
def dotC (p:Int) (x y : TripD) : Int:=(x.1 * y.1 + x.2.1 * y.2.1 + x.2.2.1 * y.2.2.1) % p
noncomputable def conDotC : Con:=mkC 114 [.d (.ptr Plane),.d Trip,.d Trip] [I64] (fun (k : PlaneD) (x y : TripD)=>[isP k.1,inR k.1 x,inR k.1 y]) (fun (k : PlaneD) (x y : TripD)=>(dotC k.1 x y,()))
def idxFrom (v:Int) : List Int → Int → Int
 | [],_=>-1
 | x :: l,i=>if v = x then i else idxFrom v l (i + 1)
noncomputable def con80 : Con:=mkC 80 [.d (.slice I64),.d I64] [I64] (fun (l:List Int) (v:Int)=>[small l]) (fun (l:List Int) (v:Int)=>(idxFrom v l 0,()))
noncomputable def g80 (x0:List Int) (x1:Int) : Option (Int × Unit):=whileO (fun (d2 : Int × Unit)=>bif ilt d2.1 (↑(List.length x0):Int) then gd (0 ≤ d2.1 ∧ d2.1 < (↑(List.length x0):Int)) (bif ieq x1 (List.getD x0 (Int.toNat d2.1) 0) then some (Lp.out ((d2.1,()) : Int × Unit)) else some (Lp.go ((wr .i64 (d2.1 + 1),()) : Int × Unit))) else some (Lp.out (((-1:Int),()) : Int × Unit))) ((0,()) : Int × Unit)
noncomputable def g80_sh : List LSh:=[LSh.mk [((8,TV.v (Ty.int IntKind.i64)) : Nat × TV)] []]
noncomputable def con37 : Con:=mkC 37 [.d (.slice I64),.d I64] [.bool] (fun (l:List Int) (v:Int)=>[small l]) (fun (l:List Int) (v:Int)=>(l.contains v,()))
noncomputable def g37 (x0:List Int) (x1:Int) : Option (Bool × Unit):=gd (small x0) (some ((ile 0 (idxFrom x1 x0 0),()) : Bool × Unit))
noncomputable def g37_sh : List LSh:=[]
noncomputable def outOf (k : Option PlaneD) (n:Int) : Bool:=ilt n 0 || ile ((k.getD (0,[],[],())).2.1.length:Int) n
noncomputable def con112 : Con:=mkC 112 [.d I64,.d (.ptr (.optr Plane))] [.bool] (fun (n:Int) (k : Option PlaneD)=>[k.isSome = true]) (fun (n:Int) (k : Option PlaneD)=>(outOf k n,()))
noncomputable def g112 (x0:Int) (x1 : Option (Int × List (Int × Int × Int × Unit) × List ((Int × Int × Int × Unit) × Int) × Unit)) : Option (Bool × Unit):=gd ((!ilt x0 0) = true → (!ilt x0 0) = true ∧ Option.isSome x1 = true) (gd ((!ilt x0 0) = true → (!ilt x0 0) = true) (gd ((!ilt x0 0) = true → (!ilt x0 0) = true) (gd ((!ilt x0 0) = true → (!ilt x0 0) = true) (gd ((!ilt x0 0) = true → (!ilt x0 0) = true ∧ (!ilt x0 0) = true) (gd (ilt x0 0 = false → (!ilt x0 0) = true) (some ((bif ilt x0 0 then true else ile (↑(List.length (Option.getD x1 ((0,[],[],()) : Int × List (Int × Int × Int × Unit) × List ((Int × Int × Int × Unit) × Int) × Unit)).2.1):Int) x0,()) : Bool × Unit)))))))
noncomputable def g112_sh : List LSh:=[]
def ixOf (q : Int → Bool) : List Int → Int → Int
 | [],_=>-1
 | x :: l,i=>if q x = true then i else ixOf q l (i + 1)
noncomputable def con99b : Con:=mkC 99 [.d (.slice I64),.fn 112 [.ptr (.optr Plane)]] [I64] (fun (l:List Int) (k : Option PlaneD)=>[small l,k.isSome = true]) (fun (l:List Int) (k : Option PlaneD)=>(ixOf (outOf k) l 0,()))
noncomputable def g99b (x0:List Int) (x1 : Option (Int × List (Int × Int × Int × Unit) × List ((Int × Int × Int × Unit) × Int) × Unit)) : Option (Int × Unit):=whileO (fun (d2 : Option (Int × List (Int × Int × Int × Unit) × List ((Int × Int × Int × Unit) × Int) × Unit) × Int × Unit)=>bif ilt d2.2.1 (↑(List.length x0):Int) then gd (0 ≤ d2.2.1 ∧ d2.2.1 < (↑(List.length x0):Int)) (gd (Option.isSome d2.1 = true) (bif outOf d2.1 (List.getD x0 (Int.toNat d2.2.1) 0) then some (Lp.out ((d2.2.1,()) : Int × Unit)) else some (Lp.go ((d2.1,wr .i64 (d2.2.1 + 1),()) : Option (Int × List (Int × Int × Int × Unit) × List ((Int × Int × Int × Unit) × Int) × Unit) × Int × Unit)))) else some (Lp.out (((-1:Int),()) : Int × Unit))) ((x1,0,()) : Option (Int × List (Int × Int × Int × Unit) × List ((Int × Int × Int × Unit) × Int) × Unit) × Int × Unit)
noncomputable def g99b_sh : List LSh:=[LSh.mk [((1,TV.fn (112) (TV.cons (TV.v (Ty.ptr (Ty.optr (Ty.prod (Ty.int IntKind.i64) (Ty.prod (Ty.slice (Ty.prod (Ty.int IntKind.i64) (Ty.prod (Ty.int IntKind.i64) (Ty.prod (Ty.int IntKind.i64) Ty.unit)))) (Ty.prod (Ty.map (Ty.prod (Ty.int IntKind.i64) (Ty.prod (Ty.int IntKind.i64) (Ty.prod (Ty.int IntKind.i64) Ty.unit))) (Ty.int IntKind.i64)) Ty.unit)))))) TV.nil)) : Nat × TV),((8,TV.v (Ty.int IntKind.i64)) : Nat × TV)] []]
noncomputable def con111 : Con:=mkC 111 [.d (.slice I64),.fn 112 [.ptr (.optr Plane)]] [.bool] (fun (l:List Int) (k : Option PlaneD)=>[small l,k.isSome = true]) (fun (l:List Int) (k : Option PlaneD)=>(l.any (outOf k),()))
noncomputable def g111 (x0:List Int) (x1 : Option (Int × List (Int × Int × Int × Unit) × List ((Int × Int × Int × Unit) × Int) × Unit)) : Option (Bool × Unit):=gd (small x0) (gd (Option.isSome x1 = true) (some ((ile 0 (ixOf (outOf x1) x0 0),()) : Bool × Unit)))
noncomputable def g111_sh : List LSh:=[]
theorem modF_eq {p n : Int} (hp : 0 < p ∧ p ≤ 1000) : modF p n = n % p:=by
 have h1:=Int.lt_tmod_of_pos n hp.1
 have h2:=Int.tmod_lt_of_pos n hp.1
 unfold modF
 rw [wr_id (by omega),Int.tmod_eq_emod_of_nonneg (by omega),Int.add_emod_right,Int.tmod_def,Int.sub_mul_emod_self_left]
theorem goal113 : conCross.goal Try.prog (spOf [conMod]) g113_sh [] lm30:=by
 have e : (∀ (k : PlaneD) (x y : TripD),isP k.1 → inR k.1 x → inR k.1 y → g113 k x y = some (crossF k.1 x y,())) = conCross.goal Try.prog (spOf [conMod]) g113_sh [] lm30:=by kernel_rfl
 rw [← e]
 intro k x y hp hx hy
 have hb:=isP_bd hp
 obtain ⟨x1,x2,x3,_⟩:=x
 obtain ⟨y1,y2,y3,_⟩:=y
 obtain ⟨h1,h2,h3⟩:=hx
 obtain ⟨g1,g2,g3⟩:=hy
 simp only at h1 h2 h3 g1 g2 g3
 have b1:=mul_bd (c:=6) (a:=x2) (b:=y3) (by omega) (by omega)
 have b2:=mul_bd (c:=6) (a:=x3) (b:=y2) (by omega) (by omega)
 have b3:=mul_bd (c:=6) (a:=x3) (b:=y1) (by omega) (by omega)
 have b4:=mul_bd (c:=6) (a:=x1) (b:=y3) (by omega) (by omega)
 have b5:=mul_bd (c:=6) (a:=x1) (b:=y2) (by omega) (by omega)
 have b6:=mul_bd (c:=6) (a:=x2) (b:=y1) (by omega) (by omega)
 have hk : k.1 ≠ 0:=by omega
 simp (disch:=omega) only [g113,gd_pos hk,gd_true,gd_pos,wr_id,modF_eq]
 rfl
set_option maxRecDepth 100000 in
theorem okCross : conCross.Ok Try.prog:=Con.of_goal mixed (okC okMod okN) conCross goal113
theorem ixF3 {a b c : Int} : ixF [a,b,c] = if a ≠ 0 then 0 else if b ≠ 0 then 1 else if c ≠ 0 then 2 else -1:=by
 by_cases h1 : a = 0 <;> by_cases h2 : b = 0 <;> by_cases h3 : c = 0 <;> simp [ixF,ixFrom,nz,ieq,h1,h2,h3]
theorem goal83 : conLow.goal Try.prog (spOf [conMod,conInv,con99]) g83_sh [] lm30:=by
 have e : (∀ (k : PlaneD) (x : TripD),isP k.1 → inR k.1 x → notO x → g83 k x = some (lowF k.1 x,())) = conLow.goal Try.prog (spOf [conMod,conInv,con99]) g83_sh [] lm30:=by kernel_rfl
 rw [← e]
 intro k x hp hx ho
 have hb:=isP_bd hp
 obtain ⟨a,b,c,_⟩:=x
 obtain ⟨h1,h2,h3⟩:=hx
 simp only [notO] at h1 h2 h3 ho
 have hsm : small [a,b,c]:=by simp [small]
 have hix : 0 ≤ ixF [a,b,c] ∧ ixF [a,b,c] < 3:=by rw [ixF3];(repeat' split) <;> omega
 have hget : [a,b,c].getD (ixF [a,b,c]).toNat 0 = firstF (a,b,c,()):=by
  rw [ixF3]
  simp only [firstF]
  by_cases q1 : a = 0 <;> by_cases q2 : b = 0 <;> by_cases q3 : c = 0 <;> simp [q1,q2,q3] <;> omega
 have hrng : rngP k.1 (firstF (a,b,c,())):=by
  unfold rngP firstF
  simp only
  split
  ·omega
  ·split <;> omega
 have hinv:=(inv_spec hp hrng)
 generalize hv : invF k.1 (firstF (a,b,c,())) = v at *
 have b1:=mul_bd (c:=6) (a:=a) (b:=v) (by omega) (by omega)
 have b2:=mul_bd (c:=6) (a:=b) (b:=v) (by omega) (by omega)
 have b3:=mul_bd (c:=6) (a:=c) (b:=v) (by omega) (by omega)
 have hk : k.1 ≠ 0:=by omega
 unfold g83
 simp only [Nat.zero_add,Nat.mul_one,hget]
 rw [gd_pos (by omega),gd_pos hsm,gd_pos hix,gd_pos (by omega),gd_pos hp,gd_pos hrng]
 rw [hv]
 have w1 : wr .i64 1 = 1:=by decide
 have w2 : wr .i64 2 = 2:=by decide
 have w3 : wr .i64 3 = 3:=by decide
 rw [whileO_eq];simp [ilt,gd_pos hk,gd_true,w1]
 rw [whileO_eq];simp [ilt,gd_pos hk,gd_true,w2]
 rw [whileO_eq];simp [ilt,gd_pos hk,gd_true,w3]
 rw [whileO_eq];simp [ilt,gd_true,setMany]
 rw [wr_id (by omega),wr_id (by omega),wr_id (by omega),modF_eq (by omega),modF_eq (by omega),modF_eq (by omega)]
 simp only [lowF,hv]
set_option maxRecDepth 100000 in
theorem okLow : conLow.Ok Try.prog:=Con.of_goal mixed (okC okMod (okC okInv (okC ok99 okN))) conLow goal83
theorem goal114c : conDotC.goal Try.prog (spOf [conMod]) g114_sh [] lm30:=by
 have e : (∀ (k : PlaneD) (x y : TripD),isP k.1 → inR k.1 x → inR k.1 y → g114 k x y = some (dotC k.1 x y,())) = conDotC.goal Try.prog (spOf [conMod]) g114_sh [] lm30:=by kernel_rfl
 rw [← e]
 intro k x y hp hx hy
 have hb:=isP_bd hp
 obtain ⟨x1,x2,x3,_⟩:=x
 obtain ⟨y1,y2,y3,_⟩:=y
 obtain ⟨h1,h2,h3⟩:=hx
 obtain ⟨g1,g2,g3⟩:=hy
 simp only at h1 h2 h3 g1 g2 g3
 have b1:=mul_bd (c:=6) (a:=x1) (b:=y1) (by omega) (by omega)
 have b2:=mul_bd (c:=6) (a:=x2) (b:=y2) (by omega) (by omega)
 have b3:=mul_bd (c:=6) (a:=x3) (b:=y3) (by omega) (by omega)
 have hk : k.1 ≠ 0:=by omega
 simp (disch:=omega) only [g114,gd_pos hk,gd_true,gd_pos,wr_id,modF_eq]
 rfl
set_option maxRecDepth 100000 in
theorem okDotC : conDotC.Ok Try.prog:=Con.of_goal mixed (okC okMod okN) conDotC goal114c
theorem goal80 : con80.goal Try.prog (spOf []) g80_sh [] lm30:=by
 have e : (∀ (l:List Int) (v:Int),small l → g80 l v = some (idxFrom v l 0,())) = con80.goal Try.prog (spOf []) g80_sh [] lm30:=by kernel_rfl
 rw [← e]
 intro l v hs
 unfold small at hs
 unfold g80
 refine whileO_rec (fun (d : Int × Unit)=>0 ≤ d.1 ∧ d.1 ≤ l.length) (fun (d : Int × Unit)=>l.length - d.1.toNat) (fun (d : Int × Unit)=>(idxFrom v (l.drop d.1.toNat) d.1,())) ?_ ((0:Int),()) ⟨by omega,by omega⟩
 rintro ⟨i,_⟩ ⟨h0,h1⟩
 simp only at h0 h1 ⊢
 by_cases hlt : i < l.length
 ·have hn : i.toNat < l.length:=by omega
  have ht : (i + 1).toNat = i.toNat + 1:=by omega
  rw [cond_t (ilt_iff.2 hlt),gd_pos ⟨h0,hlt⟩,getD_at hn,List.drop_eq_getElem_cons hn]
  by_cases hz : v = l[i.toNat]
  ·left;rw [cond_t (ieq_iff.2 hz),idxFrom,if_pos hz]
  ·right
   refine ⟨_,by rw [cond_f (ieq_false.2 hz),wr_id (by omega)],⟨by simp only;omega,by simp only;omega⟩,by simp only;omega,?_⟩
   rw [idxFrom,if_neg hz]
   simp only [ht]
 ·left
  have : i.toNat = l.length:=by omega
  rw [cond_f (ilt_false.2 (by omega)),this,List.drop_length]
  rfl
set_option maxRecDepth 100000 in
theorem ok80 : con80.Ok Try.prog:=Con.of_goal mixed okN con80 goal80
theorem idx_contains {v : Int} : ∀ {l : List Int} {i : Int},0 ≤ i → ile 0 (idxFrom v l i) = l.contains v
 | [],i,h=>rfl
 | x :: l,i,h=>by
  rw [idxFrom,List.contains_cons]
  by_cases hx : v = x
  ·subst hx
   simp [ile,h]
  ·rw [if_neg hx,idx_contains (by omega)]
   have : (v == x) = false:=by simp [hx]
   rw [this,Bool.false_or]
theorem goal37 : con37.goal Try.prog (spOf [con80]) g37_sh [] lm30:=by
 have e : (∀ (l:List Int) (v:Int),small l → g37 l v = some (l.contains v,())) = con37.goal Try.prog (spOf [con80]) g37_sh [] lm30:=by kernel_rfl
 rw [← e]
 intro l v hs
 rw [g37,gd_pos hs,idx_contains (by omega)]
set_option maxRecDepth 100000 in
theorem ok37 : con37.Ok Try.prog:=Con.of_goal mixed (okC ok80 okN) con37 goal37
theorem goal112 : con112.goal Try.prog (spOf []) g112_sh [] lm30:=by
 have e : (∀ (n:Int) (k : Option PlaneD),k.isSome = true → g112 n k = some (outOf k n,())) = con112.goal Try.prog (spOf []) g112_sh [] lm30:=by kernel_rfl
 rw [← e]
 intro n k h
 unfold g112
 rw [gd_pos (fun h'=>⟨h',h⟩),gd_pos (fun h'=>h'),gd_pos (fun h'=>h'),gd_pos (fun h'=>h'),gd_pos (fun h'=>⟨h',h'⟩),gd_pos (fun h'=>by rw [h'];rfl)]
 simp only [outOf]
 cases ilt n 0 <;> rfl
set_option maxRecDepth 100000 in
theorem ok112 : con112.Ok Try.prog:=Con.of_goal mixed okN con112 goal112
theorem goal99b : con99b.goal Try.prog (spOf [con112]) g99b_sh [] lm30:=by
 have e : (∀ (l:List Int) (k : Option PlaneD),small l → k.isSome = true → g99b l k = some (ixOf (outOf k) l 0,())) = con99b.goal Try.prog (spOf [con112]) g99b_sh [] lm30:=by kernel_rfl
 rw [← e]
 intro l k hs hk
 unfold small at hs
 unfold g99b
 refine whileO_rec (fun (d : Option PlaneD × Int × Unit)=>d.1 = k ∧ 0 ≤ d.2.1 ∧ d.2.1 ≤ l.length) (fun (d : Option PlaneD × Int × Unit)=>l.length - d.2.1.toNat) (fun (d : Option PlaneD × Int × Unit)=>(ixOf (outOf k) (l.drop d.2.1.toNat) d.2.1,())) ?_ (k,(0:Int),()) ⟨rfl,by simp only;omega,by simp only;omega⟩
 rintro ⟨k',i,_⟩ ⟨hkk,h0,h1⟩
 simp only at hkk h0 h1 ⊢
 subst hkk
 by_cases hlt : i < l.length
 ·have hn : i.toNat < l.length:=by omega
  have ht : (i + 1).toNat = i.toNat + 1:=by omega
  rw [cond_t (ilt_iff.2 hlt),gd_pos ⟨h0,hlt⟩,gd_pos hk,getD_at hn,List.drop_eq_getElem_cons hn]
  by_cases hz : outOf k' l[i.toNat] = true
  ·left;rw [cond_t hz,ixOf,if_pos hz]
  ·right
   have hz' : outOf k' l[i.toNat] = false:=by simpa using hz
   refine ⟨_,by rw [cond_f hz',wr_id (by omega)],⟨rfl,by simp only;omega,by simp only;omega⟩,by simp only;omega,?_⟩
   rw [ixOf,if_neg hz]
   simp only [ht]
 ·left
  have : i.toNat = l.length:=by omega
  rw [cond_f (ilt_false.2 (by omega)),this,List.drop_length]
  rfl
set_option maxRecDepth 100000 in
theorem ok99b : con99b.Ok Try.prog:=Con.of_goal mixed (okC ok112 okN) con99b goal99b
theorem ixOf_any {q : Int → Bool} : ∀ {l : List Int} {i : Int},0 ≤ i → ile 0 (ixOf q l i) = l.any q
 | [],i,h=>rfl
 | x :: l,i,h=>by
  rw [ixOf,List.any_cons]
  by_cases hx : q x = true
  ·rw [if_pos hx,hx]
   simp [ile,h]
  ·rw [if_neg hx,ixOf_any (by omega)]
   have : q x = false:=by simpa using hx
   rw [this,Bool.false_or]
theorem goal111 : con111.goal Try.prog (spOf [con99b]) g111_sh [] lm30:=by
 have e : (∀ (l:List Int) (k : Option PlaneD),small l → k.isSome = true → g111 l k = some (l.any (outOf k),())) = con111.goal Try.prog (spOf [con99b]) g111_sh [] lm30:=by kernel_rfl
 rw [← e]
 intro l k hs hk
 rw [g111,gd_pos hs,gd_pos hk,ixOf_any (by omega)]
set_option maxRecDepth 100000 in
theorem ok111 : con111.Ok Try.prog:=Con.of_goal mixed (okC ok99b okN) con111 goal111
end Go.Arcs
namespace Go.Arcs
open Go Go.Ab Go.Proofs
def tripN (p n:Int) : TripD:=(n / p / p,n / p % p,n % p,())
noncomputable def bldN (p:Int) : Nat → Int → List TripD → List (TripD × Int) → List TripD × List (TripD × Int)
 | 0,_,xs,m=>(xs,m)
 | n + 1,i,xs,m=>if deq Trip (lowF p (tripN p i)) (tripN p i) = true then bldN p n (i + 1) (xs ++ [tripN p i]) (assocUp Trip I64 m (tripN p i) (xs.length:Int)) else bldN p n (i + 1) xs m
noncomputable def planeF (p:Int) : PlaneD:=(p,(bldN p (p * p * p - 1).toNat 1 [] []).1,(bldN p (p * p * p - 1).toNat 1 [] []).2,())
def isPb (p:Int) : Bool:=[2,3,5,7].contains p
def inPt (p n:Int) : Bool:=decide (0 ≤ n) && decide (n < p * p + p + 1)
noncomputable def readF (p:Int) (l:List Int) : Option PlaneD × Bool × Unit:=if isPb p = true then (some (planeF p),l.all (inPt p),()) else (none,false,())
noncomputable def conRead : Con:=mkC 67 [.d I64,.d (.slice I64)] [.optr Plane,.bool] (fun (p:Int) (l:List Int)=>[small l]) (fun (p:Int) (l:List Int)=>readF p l)
noncomputable def g67 (x0:Int) (x1:List Int) : Option (Option (Int × List (Int × Int × Int × Unit) × List ((Int × Int × Int × Unit) × Int) × Unit) × Bool × Unit):=gd (small [2,3,5,7]) (bif !List.contains [2,3,5,7] x0 then some ((none,false,()) : Option (Int × List (Int × Int × Int × Unit) × List ((Int × Int × Int × Unit) × Int) × Unit) × Bool × Unit) else gd ((0:Nat) = 0) (whileO (fun (d2 : Int × Int × List (Int × Int × Int × Unit) × List ((Int × Int × Int × Unit) × Int) × Unit)=>bif ilt d2.1 (wr .i64 (wr .i64 (x0 * x0) * x0)) then gd (x0 ≠ 0) (gd (x0 ≠ 0) (gd (x0 ≠ 0) (gd (x0 ≠ 0) (gd (x0 ≠ 0) (gd ((3:Nat) ≤ 3) (gd ((3:Nat) ≤ 3) (gd (0 + List.length d2.2.2.1 ≤ List.length d2.2.2.1) (gd (isP d2.2.1) (gd (inR d2.2.1 ((wr .i64 (Int.tdiv (wr .i64 (Int.tdiv d2.1 x0)) x0),Int.tmod (wr .i64 (Int.tdiv d2.1 x0)) x0,Int.tmod d2.1 x0,()) : Int × Int × Int × Unit)) (gd (notO ((wr .i64 (Int.tdiv (wr .i64 (Int.tdiv d2.1 x0)) x0),Int.tmod (wr .i64 (Int.tdiv d2.1 x0)) x0,Int.tmod d2.1 x0,()) : Int × Int × Int × Unit)) (gd ((3:Nat) ≤ 3) (bif deq (Ty.prod (Ty.int IntKind.i64) (Ty.prod (Ty.int IntKind.i64) (Ty.prod (Ty.int IntKind.i64) Ty.unit))) (lowF d2.2.1 ((wr .i64 (Int.tdiv (wr .i64 (Int.tdiv d2.1 x0)) x0),Int.tmod (wr .i64 (Int.tdiv d2.1 x0)) x0,Int.tmod d2.1 x0,()) : Int × Int × Int × Unit)) ((wr .i64 (Int.tdiv (wr .i64 (Int.tdiv d2.1 x0)) x0),Int.tmod (wr .i64 (Int.tdiv d2.1 x0)) x0,Int.tmod d2.1 x0,()) : Int × Int × Int × Unit) then gd ((3:Nat) ≤ 3) (gd ((3:Nat) ≤ 3) (gd (List.length d2.2.2.1 ≤ List.length d2.2.2.1) (gd ((List.length d2.2.2.1 + 1) * (24:Nat) ≤ 1099511627776) (gd (List.length d2.2.2.1 + 1 = List.length (List.take (List.length d2.2.2.1) d2.2.2.1 ++ [((wr .i64 (Int.tdiv (wr .i64 (Int.tdiv d2.1 x0)) x0),Int.tmod (wr .i64 (Int.tdiv d2.1 x0)) x0,Int.tmod d2.1 x0,()) : Int × Int × Int × Unit)])) (some (Lp.go ((wr .i64 (d2.1 + 1),d2.2.1,List.take (List.length d2.2.2.1) d2.2.2.1 ++ [((wr .i64 (Int.tdiv (wr .i64 (Int.tdiv d2.1 x0)) x0),Int.tmod (wr .i64 (Int.tdiv d2.1 x0)) x0,Int.tmod d2.1 x0,()) : Int × Int × Int × Unit)],assocUp (Ty.prod (Ty.int IntKind.i64) (Ty.prod (Ty.int IntKind.i64) (Ty.prod (Ty.int IntKind.i64) Ty.unit))) (Ty.int IntKind.i64) d2.2.2.2.1 ((wr .i64 (Int.tdiv (wr .i64 (Int.tdiv d2.1 x0)) x0),Int.tmod (wr .i64 (Int.tdiv d2.1 x0)) x0,Int.tmod d2.1 x0,()) : Int × Int × Int × Unit) (↑(List.length d2.2.2.1):Int),()) : Int × Int × List (Int × Int × Int × Unit) × List ((Int × Int × Int × Unit) × Int) × Unit))))))) else gd (List.length d2.2.2.1 = List.length d2.2.2.1) (some (Lp.go ((wr .i64 (d2.1 + 1),d2.2.1,d2.2.2.1,d2.2.2.2.1,()) : Int × Int × List (Int × Int × Int × Unit) × List ((Int × Int × Int × Unit) × Int) × Unit))))))))))))))) else gd (0 + List.length d2.2.2.1 ≤ List.length d2.2.2.1) (gd (small x1) (gd (true = true) (gd (0 + List.length d2.2.2.1 ≤ List.length d2.2.2.1) (some (Lp.out ((some ((d2.2.1,List.take (List.length d2.2.2.1) (List.drop 0 d2.2.2.1),d2.2.2.2.1,()) : Int × List (Int × Int × Int × Unit) × List ((Int × Int × Int × Unit) × Int) × Unit),!List.any x1 (outOf (some ((d2.2.1,List.take (List.length d2.2.2.1) (List.drop 0 d2.2.2.1),d2.2.2.2.1,()) : Int × List (Int × Int × Int × Unit) × List ((Int × Int × Int × Unit) × Int) × Unit))),()) : Option (Int × List (Int × Int × Int × Unit) × List ((Int × Int × Int × Unit) × Int) × Unit) × Bool × Unit))))))) ((1,x0,[],[],()) : Int × Int × List (Int × Int × Int × Unit) × List ((Int × Int × Int × Unit) × Int) × Unit)))
noncomputable def g67_sh : List LSh:=[LSh.mk [((6,TV.ref (0) 1 0 0) : Nat × TV),((7,TV.v (Ty.int IntKind.i64)) : Nat × TV)] [TB.cells [TV.ref (1) 1 0 0],TB.cells [TV.v (Ty.int IntKind.i64),TV.slf (2) (3),TV.mref (3)],TB.arr (Ty.prod (Ty.int IntKind.i64) (Ty.prod (Ty.int IntKind.i64) (Ty.prod (Ty.int IntKind.i64) Ty.unit))) true,TB.map (Ty.prod (Ty.int IntKind.i64) (Ty.prod (Ty.int IntKind.i64) (Ty.prod (Ty.int IntKind.i64) Ty.unit))) (Ty.int IntKind.i64)]]
def ptsC (p:Int) : List TripD:=(0,0,1,()) :: ((List.range p.toNat).map fun (z:Nat)=>((0,1,(z:Int),()) : TripD)) ++ (List.range p.toNat).flatMap fun (y:Nat)=>(List.range p.toNat).map fun (z:Nat)=>((1,(y:Int),(z:Int),()) : TripD)
def pt (p n:Int) : TripD:=(ptsC p).getD n.toNat (0,0,0,())
def ixA {α : Type} (q : α → Bool) : List α → Int → Int
 | [],_=>-1
 | x :: l,i=>if q x = true then i else ixA q l (i + 1)
def bothF (p:Int) (x y l : TripD) : Bool:=ieq (dotC p x l) 0 && ieq (dotC p y l) 0
def joinR (p a b:Int) : Int:=ixA (bothF p (pt p a) (pt p b)) (ptsC p) 0
def isPl (k : PlaneD) : Prop:=isP k.1 ∧ k = planeF k.1
def numC (p:Int) (x : TripD) : Int:=if x.1 = 1 then 1 + p + x.2.1 * p + x.2.2.1 else if x.2.1 = 1 then 1 + x.2.2.1 else 0
def onF (p a b:Int) : Bool:=ieq (dotC p (pt p a) (pt p b)) 0
noncomputable def thrF (p a b:Int) : Int:=numC p (lowF p (crossF p (pt p a) (pt p b)))
noncomputable def con70 : Con:=mkC 70 [.d (.ptr Plane),.d I64,.d I64] [.bool] (fun (k : PlaneD) (a b:Int)=>[isPl k,inPt k.1 a = true,inPt k.1 b = true]) (fun (k : PlaneD) (a b:Int)=>(onF k.1 a b,()))
noncomputable def g70 (x0 : Int × List (Int × Int × Int × Unit) × List ((Int × Int × Int × Unit) × Int) × Unit) (x1 x2:Int) : Option (Bool × Unit):=gd (0 ≤ x1 ∧ x1 < (↑(List.length x0.2.1):Int)) (gd (0 ≤ x2 ∧ x2 < (↑(List.length x0.2.1):Int)) (gd (isP x0.1) (gd (inR x0.1 (List.getD x0.2.1 (Int.toNat x1) ((0,0,0,()) : Int × Int × Int × Unit))) (gd (inR x0.1 (List.getD x0.2.1 (Int.toNat x2) ((0,0,0,()) : Int × Int × Int × Unit))) (some ((ieq (dotC x0.1 (List.getD x0.2.1 (Int.toNat x1) ((0,0,0,()) : Int × Int × Int × Unit)) (List.getD x0.2.1 (Int.toNat x2) ((0,0,0,()) : Int × Int × Int × Unit))) 0,()) : Bool × Unit))))))
noncomputable def g70_sh : List LSh:=[]
noncomputable def con68 : Con:=mkC 68 [.d (.ptr Plane),.d I64,.d I64] [I64] (fun (k : PlaneD) (a b:Int)=>[isPl k,inPt k.1 a = true,inPt k.1 b = true,a ≠ b]) (fun (k : PlaneD) (a b:Int)=>(thrF k.1 a b,()))
noncomputable def g68 (x0 : Int × List (Int × Int × Int × Unit) × List ((Int × Int × Int × Unit) × Int) × Unit) (x1 x2:Int) : Option (Int × Unit):=gd (0 ≤ x1 ∧ x1 < (↑(List.length x0.2.1):Int)) (gd (0 ≤ x2 ∧ x2 < (↑(List.length x0.2.1):Int)) (gd (isP x0.1) (gd (inR x0.1 (List.getD x0.2.1 (Int.toNat x1) ((0,0,0,()) : Int × Int × Int × Unit))) (gd (inR x0.1 (List.getD x0.2.1 (Int.toNat x2) ((0,0,0,()) : Int × Int × Int × Unit))) (gd (isP x0.1) (gd (inR x0.1 (crossF x0.1 (List.getD x0.2.1 (Int.toNat x1) ((0,0,0,()) : Int × Int × Int × Unit)) (List.getD x0.2.1 (Int.toNat x2) ((0,0,0,()) : Int × Int × Int × Unit)))) (gd (notO (crossF x0.1 (List.getD x0.2.1 (Int.toNat x1) ((0,0,0,()) : Int × Int × Int × Unit)) (List.getD x0.2.1 (Int.toNat x2) ((0,0,0,()) : Int × Int × Int × Unit)))) (some ((Option.getD (assoc (Ty.prod (Ty.int IntKind.i64) (Ty.prod (Ty.int IntKind.i64) (Ty.prod (Ty.int IntKind.i64) Ty.unit))) (Ty.int IntKind.i64) x0.2.2.1 (lowF x0.1 (crossF x0.1 (List.getD x0.2.1 (Int.toNat x1) ((0,0,0,()) : Int × Int × Int × Unit)) (List.getD x0.2.1 (Int.toNat x2) ((0,0,0,()) : Int × Int × Int × Unit))))) 0,()) : Int × Unit)))))))))
noncomputable def g68_sh : List LSh:=[]
noncomputable def joinF (p a b:Int) : Int × Int × Unit:=if isPb p = true ∧ inPt p a = true ∧ inPt p b = true ∧ a ≠ b then (thrF p a b,0,()) else (0,2,())
noncomputable def con19 : Con:=mkC 19 [.d I64,.d I64,.d I64] [I64,I64] (fun (p a b:Int)=>[]) (fun (p a b:Int)=>joinF p a b)
noncomputable def g19 (x0 x1 x2:Int) : Option (Int × Int × Unit):=gd (small [x1,x2]) (gd ((!!(readF x0 [x1,x2]).2.1) = true → (!!(readF x0 [x1,x2]).2.1) = true ∧ (!!(readF x0 [x1,x2]).2.1) = true) (gd ((!(readF x0 [x1,x2]).2.1) = false → (!!(readF x0 [x1,x2]).2.1) = true) (bif bif !(readF x0 [x1,x2]).2.1 then true else ieq x1 x2 then some ((0,2,()) : Int × Int × Unit) else gd (Option.isSome (readF x0 [x1,x2]).1 = true) (gd (isPl (Option.getD (readF x0 [x1,x2]).1 ((0,[],[],()) : Int × List (Int × Int × Int × Unit) × List ((Int × Int × Int × Unit) × Int) × Unit))) (gd (inPt (Option.getD (readF x0 [x1,x2]).1 ((0,[],[],()) : Int × List (Int × Int × Int × Unit) × List ((Int × Int × Int × Unit) × Int) × Unit)).1 x1 = true) (gd (inPt (Option.getD (readF x0 [x1,x2]).1 ((0,[],[],()) : Int × List (Int × Int × Int × Unit) × List ((Int × Int × Int × Unit) × Int) × Unit)).1 x2 = true) (gd (x1 ≠ x2) (some ((thrF (Option.getD (readF x0 [x1,x2]).1 ((0,[],[],()) : Int × List (Int × Int × Int × Unit) × List ((Int × Int × Int × Unit) × Int) × Unit)).1 x1 x2,0,()) : Int × Int × Unit)))))))))
noncomputable def g19_sh : List LSh:=[]
noncomputable def con25 : Con:=mkC 25 [.d I64] [.bool] (fun (p:Int)=>[]) (fun (p:Int)=>(isPb p,()))
noncomputable def g25 (x0:Int) : Option (Bool × Unit):=gd ((!ieq x0 2) = true → (!ieq x0 2) = true) (gd (ieq x0 2 = false → (!ieq x0 2) = true) (gd ((!bif ieq x0 2 then true else ieq x0 3) = true → (!bif ieq x0 2 then true else ieq x0 3) = true) (gd ((bif ieq x0 2 then true else ieq x0 3) = false → (!bif ieq x0 2 then true else ieq x0 3) = true) (gd ((!bif bif ieq x0 2 then true else ieq x0 3 then true else ieq x0 5) = true → (!bif bif ieq x0 2 then true else ieq x0 3 then true else ieq x0 5) = true) (gd ((bif bif ieq x0 2 then true else ieq x0 3 then true else ieq x0 5) = false → (!bif bif ieq x0 2 then true else ieq x0 3 then true else ieq x0 5) = true) (some ((bif bif bif ieq x0 2 then true else ieq x0 3 then true else ieq x0 5 then true else ieq x0 7,()) : Bool × Unit)))))))
noncomputable def g25_sh : List LSh:=[]
def modT (p:Int) (x : TripD) : TripD:=(x.1 % p,x.2.1 % p,x.2.2.1 % p,())
noncomputable def unitF (p:Int) (x : TripD) : TripD:=if x.1 % p = 0 ∧ x.2.1 % p = 0 ∧ x.2.2.1 % p = 0 then (0,0,0,()) else lowF p (modT p x)
noncomputable def con22 : Con:=mkC 22 [] [.bool] [] (true,())
noncomputable def g22  : Option (Bool × Unit):=gd (ieq (joinF 2 0 1).1 3 = true → ieq (joinF 2 0 1).1 3 = true) (gd (ieq (joinF 2 0 1).1 3 = true → ieq (joinF 2 0 1).1 3 = true) (some ((bif ieq (joinF 2 0 1).1 3 then ieq (joinF 2 0 1).2.1 0 else false,()) : Bool × Unit)))
noncomputable def g22_sh : List LSh:=[]
theorem isPb_iff {p : Int} : isPb p = true ↔ isP p:=by simp [isPb,isP]
theorem ppp {p : Int} (hp : isP p) : wr .i64 (wr .i64 (p * p) * p) = p * p * p:=by
 rcases hp with rfl | rfl | rfl | rfl <;> decide
theorem trip_eq {p i : Int} (hp : isP p) (h0 : 0 ≤ i) (h1 : i < p * p * p) : ((wr .i64 (Int.tdiv (wr .i64 (Int.tdiv i p)) p),Int.tmod (wr .i64 (Int.tdiv i p)) p,Int.tmod i p,()) : TripD) = tripN p i:=by
 have e1:=Int.tdiv_eq_ediv_of_nonneg (b:=p) h0
 have e2 : wr .i64 (i / p) = i / p:=wr_id (by rcases hp with rfl | rfl | rfl | rfl <;> omega)
 have e3:=Int.tdiv_eq_ediv_of_nonneg (a:=i / p) (b:=p) (by rcases hp with rfl | rfl | rfl | rfl <;> omega)
 have e4 : wr .i64 (i / p / p) = i / p / p:=wr_id (by rcases hp with rfl | rfl | rfl | rfl <;> omega)
 rw [e1,e2,e3,e4,Int.tmod_eq_emod_of_nonneg (by rcases hp with rfl | rfl | rfl | rfl <;> omega),Int.tmod_eq_emod_of_nonneg h0]
 rfl
theorem trip_in {p i : Int} (hp : isP p) (h0 : 0 ≤ i) (h1 : i < p * p * p) : inR p (tripN p i):=by
 unfold inR tripN
 rcases hp with rfl | rfl | rfl | rfl <;> (simp only;omega)
theorem trip_ne {p i : Int} (hp : isP p) (h0 : 1 ≤ i) (h1 : i < p * p * p) : notO (tripN p i):=by
 unfold notO tripN
 rcases hp with rfl | rfl | rfl | rfl <;> (simp only;omega)
theorem plane_len : ∀ p ∈ ([2,3,5,7]:List Int),((planeF p).2.1.length:Int) = p * p + p + 1:=by decide +kernel
theorem goal67 : conRead.goal Try.prog (spOf [con37,con111,conLow]) g67_sh [] lm30:=by
 have e : (∀ (p:Int) (l:List Int),small l → g67 p l = some (readF p l)) = conRead.goal Try.prog (spOf [con37,con111,conLow]) g67_sh [] lm30:=by kernel_rfl
 rw [← e]
 intro p l hs
 unfold g67
 rw [gd_pos (by simp [small])]
 by_cases hpb : isPb p = true
 ·have hp:=isPb_iff.1 hpb
  have hb:=isP_bd hp
  have h343 : p * p * p ≤ 343:=by rcases hp with rfl | rfl | rfl | rfl <;> decide
  have hmem : ([2,3,5,7]:List Int).contains p = true:=hpb
  rw [cond_f (by rw [hmem];rfl),gd_pos rfl,ppp hp]
  have hfin : readF p l = (some (planeF p),!l.any (outOf (some (planeF p))),()):=by
   rw [readF,if_pos hpb]
   have hlen:=plane_len p (isP_mem hp)
   congr 2
   rw [List.all_eq_not_any_not]
   congr 2
   funext n
   simp only [outOf,Option.getD_some,hlen,inPt,ilt,ile]
   by_cases h1 : 0 ≤ n <;> by_cases h2 : n < p * p + p + 1 <;> simp [h1,h2] <;> omega
  rw [hfin]
  refine whileO_rec (fun (d : Int × Int × List TripD × List (TripD × Int) × Unit)=>d.2.1 = p ∧ 1 ≤ d.1 ∧ d.1 ≤ p * p * p ∧ (d.2.2.1.length:Int) ≤ d.1)
   (fun (d : Int × Int × List TripD × List (TripD × Int) × Unit)=>(p * p * p - d.1).toNat)
   (fun (d : Int × Int × List TripD × List (TripD × Int) × Unit)=>(some (p,(bldN p (p * p * p - d.1).toNat d.1 d.2.2.1 d.2.2.2.1).1,(bldN p (p * p * p - d.1).toNat d.1 d.2.2.1 d.2.2.2.1).2,()),
    !l.any (outOf (some (p,(bldN p (p * p * p - d.1).toNat d.1 d.2.2.1 d.2.2.2.1).1,(bldN p (p * p * p - d.1).toNat d.1 d.2.2.1 d.2.2.2.1).2,()))),())) ?_ ((1:Int),p,[],[],()) ⟨rfl,by simp only;omega,by rcases hp with rfl | rfl | rfl | rfl <;> decide,by simp only [List.length_nil];omega⟩
  rintro ⟨i,p',xs,m,_⟩ ⟨hpp,h1,h2,h3⟩
  simp only at hpp h1 h2 h3 ⊢
  subst hpp
  have hk : p' ≠ 0:=by omega
  by_cases hlt : i < p' * p' * p'
  ·right
   have hn : (p' * p' * p' - i).toNat = (p' * p' * p' - (i + 1)).toNat + 1:=by omega
   rw [cond_t (ilt_iff.2 hlt)]
   simp only [trip_eq hp (show 0 ≤ i by omega) hlt,gd_pos hk,Nat.le_refl,Nat.zero_add,gd_true,gd_pos hp,gd_pos (trip_in hp (show 0 ≤ i by omega) hlt),gd_pos (trip_ne hp h1 hlt),List.take_length]
   by_cases hq : deq Trip (lowF p' (tripN p' i)) (tripN p' i) = true
   ·refine ⟨(i + 1,p',xs ++ [tripN p' i],assocUp Trip I64 m (tripN p' i) (xs.length:Int),()),?_,⟨rfl,by simp only;omega,by simp only;omega,by simp only [List.length_append,List.length_singleton];omega⟩,by simp only;omega,?_⟩
    ·rw [cond_t hq,gd_pos (by omega),gd_pos (by simp),wr_id (by omega)]
    ·simp only [hn]
     rw [bldN,if_pos hq]
   ·have hq' : deq Trip (lowF p' (tripN p' i)) (tripN p' i) = false:=by simpa using hq
    refine ⟨(i + 1,p',xs,m,()),?_,⟨rfl,by simp only;omega,by simp only;omega,by simp only;omega⟩,by simp only;omega,?_⟩
    ·rw [cond_f hq',wr_id (by omega)]
    ·simp only [hn]
     rw [bldN,if_neg hq]
  ·left
   have hi : (p' * p' * p' - i).toNat = 0:=by omega
   rw [cond_f (ilt_false.2 (by omega)),hi]
   simp only [Nat.zero_add,Nat.le_refl,gd_true,gd_pos hs,List.drop_zero,List.take_length,bldN]
 ·have hmem : ([2,3,5,7]:List Int).contains p = false:=by simpa [isPb] using hpb
  rw [cond_t (by rw [hmem];rfl),readF,if_neg hpb]
set_option maxRecDepth 100000 in
theorem okRead : conRead.Ok Try.prog:=Con.of_goal mixed (okC ok37 (okC ok111 (okC okLow okN))) conRead goal67
end Go.Arcs
namespace Go.Arcs
open Go Go.Ab Go.Proofs
theorem plane_pts : ∀ p ∈ ([2,3,5,7]:List Int),(planeF p).2.1 = ptsC p:=by decide +kernel
theorem plane_num : ∀ p ∈ ([2,3,5,7]:List Int),∀ x ∈ ptsC p,Option.getD (α:=Int) (assoc Trip I64 (planeF p).2.2.1 x) 0 = numC p x:=by decide +kernel
theorem pts_len : ∀ p ∈ ([2,3,5,7]:List Int),((ptsC p).length:Int) = p * p + p + 1:=by decide +kernel
def inRb (p:Int) (x : TripD) : Bool:=decide (0 ≤ x.1) && decide (x.1 < p) && decide (0 ≤ x.2.1) && decide (x.2.1 < p) && decide (0 ≤ x.2.2.1) && decide (x.2.2.1 < p)
theorem inRb_iff {p : Int} {x : TripD} : inRb p x = true ↔ inR p x:=by simp [inRb,inR,and_assoc]
theorem pts_in : ∀ p ∈ ([2,3,5,7]:List Int),∀ x ∈ ptsC p,inRb p x = true:=by decide +kernel
def notOb (x : TripD) : Bool:=!(ieq x.1 0 && ieq x.2.1 0 && ieq x.2.2.1 0)
theorem notOb_iff {x : TripD} : notOb x = true ↔ notO x:=by
 simp only [notOb,notO,ieq,Bool.not_eq_true',Bool.and_eq_false_iff,beq_eq_false_iff_ne,ne_eq]
 by_cases h1 : x.1 = 0 <;> by_cases h2 : x.2.1 = 0 <;> by_cases h3 : x.2.2.1 = 0 <;> simp [h1,h2,h3]
theorem pts_cross : ∀ p ∈ ([2,3,5,7]:List Int),∀ x ∈ ptsC p,∀ y ∈ ptsC p,(deq Trip x y || (notOb (crossF p x y) && (ptsC p).any fun z=>deq Trip (lowF p (crossF p x y)) z)) = true:=by decide +kernel
theorem join_tab : ∀ p ∈ ([2,3,5,7]:List Int),∀ x ∈ ptsC p,∀ y ∈ ptsC p,(deq Trip x y || ieq (numC p (lowF p (crossF p x y))) (ixA (bothF p x y) (ptsC p) 0)) = true:=by decide +kernel
end Go.Arcs
namespace Go.Arcs
open Go Go.Ab Go.Proofs
theorem inPt_iff {p a : Int} : inPt p a = true ↔ 0 ≤ a ∧ a < p * p + p + 1:=by simp [inPt]
theorem pt_at {p a : Int} (hp : isP p) (ha : inPt p a = true) : ∃ h : a.toNat < (ptsC p).length,pt p a = (ptsC p)[a.toNat]:=by
 have h:=inPt_iff.1 ha
 have hl:=pts_len p (isP_mem hp)
 refine ⟨by omega,?_⟩
 rw [pt,getD_at]
theorem pt_mem {p a : Int} (hp : isP p) (ha : inPt p a = true) : pt p a ∈ ptsC p:=by
 obtain ⟨h,e⟩:=pt_at hp ha
 rw [e];exact List.getElem_mem h
theorem pt_in {p a : Int} (hp : isP p) (ha : inPt p a = true) : inR p (pt p a):=inRb_iff.1 (pts_in p (isP_mem hp) _ (pt_mem hp ha))
theorem pl_pts {k : PlaneD} (h : isPl k) : k.2.1 = ptsC k.1:=(congrArg (fun k=>k.2.1) h.2).trans (plane_pts k.1 (isP_mem h.1))
theorem pl_num {k : PlaneD} (h : isPl k) {x : TripD} (hx : x ∈ ptsC k.1) : Option.getD (α:=Int) (assoc Trip I64 k.2.2.1 x) 0 = numC k.1 x:=by
 exact (congrArg (fun (m : List (TripD × Int))=>Option.getD (α:=Int) (assoc Trip I64 m x) 0) (congrArg (fun (k : PlaneD)=>k.2.2.1) h.2)).trans (plane_num k.1 (isP_mem h.1) x hx)
theorem goal70 : con70.goal Try.prog (spOf [conDotC]) g70_sh [] lm30:=by
 have e : (∀ (k : PlaneD) (a b:Int),isPl k → inPt k.1 a = true → inPt k.1 b = true → g70 k a b = some (onF k.1 a b,())) = con70.goal Try.prog (spOf [conDotC]) g70_sh [] lm30:=by kernel_rfl
 rw [← e]
 intro k a b hk ha hb
 have hpts:=pl_pts hk
 have h1:=inPt_iff.1 ha
 have h2:=inPt_iff.1 hb
 have hl:=pts_len k.1 (isP_mem hk.1)
 have ea : List.getD (ptsC k.1) a.toNat (0,0,0,()) = pt k.1 a:=rfl
 have eb : List.getD (ptsC k.1) b.toNat (0,0,0,()) = pt k.1 b:=rfl
 unfold g70
 rw [hpts,ea,eb,gd_pos (by omega),gd_pos (by omega),gd_pos hk.1,gd_pos (pt_in hk.1 ha),gd_pos (pt_in hk.1 hb)]
 rfl
set_option maxRecDepth 100000 in
theorem ok70 : con70.Ok Try.prog:=Con.of_goal mixed (okC okDotC okN) con70 goal70
theorem pts_diff : ∀ p ∈ ([2,3,5,7]:List Int),∀ i ∈ List.range (ptsC p).length,∀ j ∈ List.range (ptsC p).length,(decide (i = j) || !deq Trip ((ptsC p).getD i (0,0,0,())) ((ptsC p).getD j (0,0,0,()))) = true:=by decide +kernel
theorem pt_ne {p a b : Int} (hp : isP p) (ha : inPt p a = true) (hb : inPt p b = true) (hab : a ≠ b) : deq Trip (pt p a) (pt p b) = false:=by
 have h1:=inPt_iff.1 ha
 have h2:=inPt_iff.1 hb
 have hl:=pts_len p (isP_mem hp)
 have:=pts_diff p (isP_mem hp) a.toNat (List.mem_range.2 (by omega)) b.toNat (List.mem_range.2 (by omega))
 have hne : ¬ a.toNat = b.toNat:=by omega
 simpa [hne,pt] using this
theorem cross_in {p : Int} (hp : isP p) {x y : TripD} : inR p (crossF p x y):=by
 have hb:=isP_bd hp
 have h0 : ∀ n : Int,0 ≤ n % p ∧ n % p < p:=fun n=>⟨Int.emod_nonneg n (by omega),Int.emod_lt_of_pos n (by omega)⟩
 exact ⟨h0 _,h0 _,h0 _⟩
theorem goal68 : con68.goal Try.prog (spOf [conCross,conLow]) g68_sh [] lm30:=by
 have e : (∀ (k : PlaneD) (a b:Int),isPl k → inPt k.1 a = true → inPt k.1 b = true → a ≠ b → g68 k a b = some (thrF k.1 a b,())) = con68.goal Try.prog (spOf [conCross,conLow]) g68_sh [] lm30:=by kernel_rfl
 rw [← e]
 intro k a b hk ha hb hab
 have hpts:=pl_pts hk
 have h1:=inPt_iff.1 ha
 have h2:=inPt_iff.1 hb
 have hl:=pts_len k.1 (isP_mem hk.1)
 have ea : List.getD (ptsC k.1) a.toNat (0,0,0,()) = pt k.1 a:=rfl
 have eb : List.getD (ptsC k.1) b.toNat (0,0,0,()) = pt k.1 b:=rfl
 have hc:=pts_cross k.1 (isP_mem hk.1) _ (pt_mem hk.1 ha) _ (pt_mem hk.1 hb)
 rw [pt_ne hk.1 ha hb hab,Bool.false_or,Bool.and_eq_true,List.any_eq_true] at hc
 obtain ⟨hc1,z,hz,hc2⟩:=hc
 have hlow : lowF k.1 (crossF k.1 (pt k.1 a) (pt k.1 b)) ∈ ptsC k.1:=by
  have:=(deq_iff (t:=Trip) rfl).1 hc2
  rw [this];exact hz
 unfold g68
 rw [hpts,ea,eb,gd_pos (by omega),gd_pos (by omega),gd_pos hk.1,gd_pos (pt_in hk.1 ha),gd_pos (pt_in hk.1 hb),gd_pos hk.1,gd_pos (cross_in hk.1),gd_pos (notOb_iff.1 hc1),pl_num hk hlow]
 rfl
set_option maxRecDepth 100000 in
theorem ok68 : con68.Ok Try.prog:=Con.of_goal mixed (okC okCross (okC okLow okN)) con68 goal68
theorem goal19 : con19.goal Try.prog (spOf [conRead,con68]) g19_sh [] lm30:=by
 have e : (∀ (p a b:Int),g19 p a b = some (joinF p a b)) = con19.goal Try.prog (spOf [conRead,con68]) g19_sh [] lm30:=by kernel_rfl
 rw [← e]
 intro p a b
 have hs : small [a,b]:=by simp [small]
 have h1 : (planeF p).1 = p:=rfl
 unfold g19
 rw [gd_pos hs]
 by_cases hp : isPb p = true
 ·have hpl : isPl (planeF p):=⟨isPb_iff.1 hp,rfl⟩
  by_cases ha : inPt p a = true <;> by_cases hb : inPt p b = true <;> by_cases hab : a = b
  all_goals first
   | (have h2:=ieq_false.2 hab;simp [readF,joinF,gd_true,hp,ha,hb,hab,h2,h1,hpl];done)
   | (have h2:=ieq_iff.2 hab;simp [readF,joinF,gd_true,hp,ha,hb,hab,h1,hpl,ieq];done)
 ·simp [readF,joinF,gd_true,hp]
set_option maxRecDepth 100000 in
theorem ok19 : con19.Ok Try.prog:=Con.of_goal mixed (okC okRead (okC ok68 okN)) con19 goal19
end Go.Arcs
namespace Go.Arcs
open Go Go.Ab Go.Proofs
theorem goal25 : con25.goal Try.prog (spOf []) g25_sh [] lm30:=by
 have e : (∀ (p:Int),g25 p = some (isPb p,())) = con25.goal Try.prog (spOf []) g25_sh [] lm30:=by kernel_rfl
 rw [← e]
 intro p
 by_cases h2 : p = 2 <;> by_cases h3 : p = 3 <;> by_cases h5 : p = 5 <;> by_cases h7 : p = 7 <;> simp [g25,isPb,gd_true,ieq,h2,h3,h5,h7]
set_option maxRecDepth 100000 in
theorem ok25 : con25.Ok Try.prog:=Con.of_goal mixed okN con25 goal25
theorem goal22 : con22.goal Try.prog (spOf [con19]) g22_sh [] lm30:=by
 have e : (g22 = some (true,())) = con22.goal Try.prog (spOf [con19]) g22_sh [] lm30:=by kernel_rfl
 rw [← e]
 have h : joinF 2 0 1 = (3,0,()):=by decide +kernel
 unfold g22
 rw [h]
 simp [gd_true,ieq]
set_option maxRecDepth 100000 in
theorem ok22 : con22.Ok Try.prog:=Con.of_goal mixed (okC ok19 okN) con22 goal22
end Go.Arcs
namespace Go.Arcs
open Go Go.Ab Go.Proofs
theorem ieq_d {x y : Int} : ieq x y = decide (x = y):=by by_cases h : x = y <;> simp [ieq,h]
def mulT (p k:Int) (t : TripD) : TripD:=(k * t.1 % p,k * t.2.1 % p,k * t.2.2.1 % p,())
end Go.Arcs
namespace Go.Arcs
open Go Go.Ab Go.Proofs
theorem thr_join {p a b : Int} (hp : isP p) (ha : inPt p a = true) (hb : inPt p b = true) (hab : a ≠ b) : thrF p a b = joinR p a b:=by
 have h:=join_tab p (isP_mem hp) _ (pt_mem hp ha) _ (pt_mem hp hb)
 rw [pt_ne hp ha hb hab,Bool.false_or] at h
 exact ieq_iff.1 h
end Go.Arcs
