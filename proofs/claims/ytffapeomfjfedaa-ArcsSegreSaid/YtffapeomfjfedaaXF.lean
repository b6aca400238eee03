/- Blocking sets: contracts. -/
import Derived.Test.YtffapeomfjfedaaXB
set_option linter.unusedVariables false
set_option linter.unusedSimpArgs false
namespace Go.Arcs
open Go Go.Ab Go.Proofs
abbrev LI : Ty:=.slice I64
noncomputable def con38 : Con:=mkC 38 [.d LI] [LI] (fun (l:List Int)=>[l.length ≤ 100000]) (fun (l:List Int)=>(l,()))
noncomputable def g38 (x0:List Int) : Option (List Int × Unit):=Option.map id (eqO (List.length x0 = 0) (some ((([]:List Int),()) : List Int × Unit)) (gd ((0:Nat) ≤ 0) (gd ((0 + List.length x0) * (8:Nat) ≤ 1099511627776) (gd (0 + (0 + List.length x0) ≤ List.length x0) (some ((List.take (0 + List.length x0) (List.drop 0 x0),()) : List Int × Unit))))))
noncomputable def g38_sh : List LSh:=([] : List LSh)
noncomputable def con34 : Con:=mkC 34 [.d LI] [LI] (fun (l:List Int)=>[]) (fun (l:List Int)=>(l.take 60,()))
noncomputable def g34 (x0:List Int) : Option (List Int × Unit):=gd (0 ≤ imin (↑(List.length x0):Int) 60 ∧ imin (↑(List.length x0):Int) 60 ≤ (↑(List.length x0):Int)) (gd (List.length (List.take (Int.toNat (imin (↑(List.length x0):Int) 60)) x0) ≤ 100000) (some ((List.take (Int.toNat (imin (↑(List.length x0):Int) 60)) x0,()) : List Int × Unit)))
noncomputable def g34_sh : List LSh:=([] : List LSh)
def small2 {α : Type} (l : List α) : Prop:=(l.length:Int) < 9223372036854775808
def ris : List Int → Bool
 | x :: y :: l=>decide (x < y) && ris (y :: l)
 | _=>true
noncomputable def con115 : Con:=mkC 115 [.d LI] [.bool] (fun (l:List Int)=>[small l]) (fun (l:List Int)=>(ris l,()))
noncomputable def g115 (x0:List Int) : Option (Bool × Unit):=whileO (fun (d1 : Int × Unit)=>bif ilt d1.1 (↑(List.length x0):Int) then gd (0 ≤ wr .i64 (d1.1 - 1) ∧ wr .i64 (d1.1 - 1) < (↑(List.length x0):Int)) (gd (0 ≤ d1.1 ∧ d1.1 < (↑(List.length x0):Int)) (bif ile (List.getD x0 (Int.toNat d1.1) 0) (List.getD x0 (Int.toNat (wr .i64 (d1.1 - 1))) 0) then some (Lp.out ((false,()) : Bool × Unit)) else some (Lp.go ((wr .i64 (d1.1 + 1),()) : Int × Unit)))) else some (Lp.out ((true,()) : Bool × Unit))) ((1,()) : Int × Unit)
noncomputable def g115_sh : List LSh:=LSh.mk (((3,TV.v (Ty.int IntKind.i64)) : Nat × TV) :: ([] : List (Nat × TV))) ([] : List TB) :: ([] : List LSh)
noncomputable def setF (p:Int) (l:List Int) : Option PlaneD × Bool × Unit:=((readF p l).1,(readF p l).2.1 && ris l,())
noncomputable def con78 : Con:=mkC 78 [.d I64,.d LI] [.optr Plane,.bool] (fun (p:Int) (l:List Int)=>[small l]) (fun (p:Int) (l:List Int)=>setF p l)
noncomputable def g78 (x0:Int) (x1:List Int) : Option (Option (Int × List (Int × Int × Int × Unit) × List ((Int × Int × Int × Unit) × Int) × Unit) × Bool × Unit):=gd (small x1) (gd ((readF x0 x1).2.1 = true → (readF x0 x1).2.1 = true ∧ small x1) (gd ((readF x0 x1).2.1 = true → (readF x0 x1).2.1 = true) (some (((readF x0 x1).1,bif (readF x0 x1).2.1 then ris x1 else false,()) : Option (Int × List (Int × Int × Int × Unit) × List ((Int × Int × Int × Unit) × Int) × Unit) × Bool × Unit))))
noncomputable def g78_sh : List LSh:=([] : List LSh)
def meetsF (p:Int) (l:List Int) (b:Int) : Int:=(l.countP (fun x=>onF p x b):Int)
def okSet (p:Int) (l:List Int) : Bool:=isPb p && l.all (inPt p) && ris l
def tabF (p:Int) : List (List Bool):=(ptsC p).map (fun a=>(ptsC p).map (fun b=>ieq (dotC p a b) 0))
def tAt (t : List (List Bool)) (x b:Int) : Bool:=(t.getD x.toNat []).getD b.toNat false
noncomputable def con43 : Con:=mkC 43 [.d LI,.d LI] [.bool] (fun (l m:List Int)=>[small l,small m]) (fun (l m:List Int)=>(eqLf ieq l m,()))
noncomputable def g43 (x0 x1:List Int) : Option (Bool × Unit):=bif !ieq (↑(List.length x0):Int) (↑(List.length x1):Int) then some ((false,()) : Bool × Unit) else whileO (fun (d2 : Int × Unit)=>bif ilt d2.1 (↑(List.length x0):Int) then gd (0 ≤ d2.1 ∧ d2.1 < (↑(List.length x0):Int)) (gd (0 ≤ d2.1 ∧ d2.1 < (↑(List.length x1):Int)) (bif !ieq (List.getD x0 (Int.toNat d2.1) 0) (List.getD x1 (Int.toNat d2.1) 0) then some (Lp.out ((false,()) : Bool × Unit)) else some (Lp.go ((wr .i64 (d2.1 + 1),()) : Int × Unit)))) else some (Lp.out ((true,()) : Bool × Unit))) ((0,()) : Int × Unit)
noncomputable def g43_sh : List LSh:=LSh.mk (((13,TV.v (Ty.int IntKind.i64)) : Nat × TV) :: ([] : List (Nat × TV))) ([] : List TB) :: ([] : List LSh)
end Go.Arcs
namespace Go.Arcs
open Go Go.Ab Go.Proofs
theorem whileO_nat {S X : Type} {step : S → Option (Lp S X)} {st : Nat → S} {lo hi : Nat} {x : X} (hl : lo ≤ hi) (h : ∀ i,lo ≤ i → i < hi → step (st i) = some (.go (st (i + 1)))) (hx : step (st hi) = some (.out x)) : whileO step (st lo) = some x:=by
  have key : ∀ (n i:Nat),lo ≤ i → i + n = hi → whileO step (st i) = some x:=by
    intro n
    induction n with
    | zero => intro i h0 h1; have : i = hi := by omega
              rw [this];exact whileO_out hx
    | succ n ih=>intro i h0 h1;exact (whileO_go (h i h0 (by omega))).trans (ih (i + 1) (by omega) (by omega))
  exact key (hi - lo) lo (Nat.le_refl _) (by omega)
theorem whileO_chk {S X : Type} {step : S → Option (Lp S X)} {st : Nat → S} {lo hi : Nat} {x y : X} {b : Bool} {Q : Nat → Bool} (hl : lo ≤ hi) (hb : b = true ↔ ∀ i,lo ≤ i → i < hi → Q i = true)
  (h : ∀ i,lo ≤ i → i < hi → step (st i) = some (cond (Q i) (.go (st (i + 1))) (.out x))) (hx : step (st hi) = some (.out y)) : whileO step (st lo) = some (cond b y x):=by
 cases b with
 | true=>exact whileO_nat hl (fun i h0 h1=>by rw [h i h0 h1,hb.1 rfl i h0 h1];rfl) hx
 | false =>
  have hne : ¬ ∀ i,lo ≤ i → i < hi → Q i = true:=fun hc=>by cases hb.2 hc
  have key : ∀ (n i:Nat),lo ≤ i → i + n = hi → (¬ ∀ j,i ≤ j → j < hi → Q j = true) → whileO step (st i) = some x:=by
   intro n
   induction n with
   | zero=>intro i h0 h1 hn;exact absurd (fun j h2 h3=>by omega) hn
   | succ n ih =>
    intro i h0 h1 hn
    have hs:=h i h0 (by omega)
    cases hq : Q i with
    | false=>rw [hq] at hs;exact whileO_out hs
    | true =>
     rw [hq] at hs
     exact (whileO_go hs).trans (ih (i + 1) (by omega) (by omega) (fun hc=>hn (fun j h2 h3=>by
      rcases Nat.lt_or_ge i j with h4 | h4
      ·exact hc j h4 h3
      ·have : j = i:=by omega
       rw [this];exact hq)))
  exact key (hi - lo) lo (Nat.le_refl _) (by omega) hne
theorem ris_iff : ∀ {l : List Int},ris l = true ↔ ∀ i,i + 1 < l.length → l.getD i 0 < l.getD (i + 1) 0
 | []=>by simp [ris]
 | [x]=>by simp [ris]
 | x :: y :: l=>by
  rw [ris,Bool.and_eq_true,decide_eq_true_eq,ris_iff (l:=y :: l)]
  constructor
  ·rintro ⟨h1,h2⟩ i hi
   cases i with
   | zero=>exact h1
   | succ i=>exact h2 i (by simp only [List.length_cons] at hi ⊢;omega)
  ·intro h
   exact ⟨h 0 (by simp),fun i hi=>h (i + 1) (by simp only [List.length_cons] at hi ⊢;omega)⟩
theorem cast1 {i : Nat} (h : (i:Int) < 9223372036854775807) : wr .i64 ((i:Int) + 1) = ((i + 1:Nat):Int):=by
 rw [wr_id (by omega)];rfl
theorem goal38 : con38.goal Try.prog (spOf []) g38_sh [5] lm30:=by
 have e : (∀ (l:List Int),l.length ≤ 100000 → g38 l = some (l,())) = con38.goal Try.prog (spOf []) g38_sh [5] lm30:=by kernel_rfl
 rw [← e]
 intro l hl
 unfold g38
 rw [gd_pos (by omega),gd_pos (by omega),gd_pos (by omega)]
 have e : List.take (0 + l.length) (List.drop 0 l) = l:=by simp
 rw [e]
 have : eqO (l.length = 0) (some (([]:List Int),())) (some (l,())) = some (l,()):=eqO_some.2 ⟨rfl,fun h=>by rw [List.eq_nil_of_length_eq_zero h]⟩
 rw [this]
 rfl
set_option maxRecDepth 100000 in
theorem ok38 : con38.Ok Try.prog:=Con.of_goal mixed okN con38 goal38
theorem goal34 : con34.goal Try.prog (spOf [con38]) g34_sh [] lm30:=by
 have e : (∀ (l:List Int),g34 l = some (l.take 60,())) = con34.goal Try.prog (spOf [con38]) g34_sh [] lm30:=by kernel_rfl
 rw [← e]
 intro l
 have h : (imin (l.length:Int) 60).toNat = min l.length 60 ∧ 0 ≤ imin (l.length:Int) 60 ∧ imin (l.length:Int) 60 ≤ (l.length:Int):=by
  unfold imin
  split <;> omega
 unfold g34
 rw [gd_pos ⟨h.2.1,h.2.2⟩,h.1]
 have e2 : l.take (min l.length 60) = l.take 60:=by
  rcases Nat.le_total l.length 60 with h | h
  ·rw [Nat.min_eq_left h,List.take_of_length_le (Nat.le_refl _),List.take_of_length_le h]
  ·rw [Nat.min_eq_right h]
 rw [e2,gd_pos (by rw [List.length_take];omega)]
set_option maxRecDepth 100000 in
theorem ok34 : con34.Ok Try.prog:=Con.of_goal mixed (okC ok38 okN) con34 goal34
theorem goal115 : con115.goal Try.prog (spOf []) g115_sh [] lm30:=by
 have e : (∀ (l:List Int),small l → g115 l = some (ris l,())) = con115.goal Try.prog (spOf []) g115_sh [] lm30:=by kernel_rfl
 rw [← e]
 intro l hl
 unfold small at hl
 unfold g115
 refine (whileO_chk (st:=fun i : Nat=>((i:Int),())) (lo:=1) (hi:=max 1 l.length) (b:=ris l) (Q:=fun i=>decide (l.getD (i - 1) 0 < l.getD i 0)) (x:=((false,()) : Bool × Unit)) (y:=((true,()) : Bool × Unit)) (by omega) ?_ ?_ ?_).trans (by cases ris l <;> rfl)
 ·rw [ris_iff]
  constructor
  ·intro h i h0 h1
   obtain ⟨k,rfl⟩ : ∃ k,i = k + 1:=⟨i - 1,by omega⟩
   exact decide_eq_true (h k (by omega))
  ·intro h i hi
   exact of_decide_eq_true (h (i + 1) (by omega) (by omega))
 ·intro i h0 h1
  have hi : i < l.length:=by omega
  have e1 : wr .i64 ((i:Int) - 1) = ((i - 1:Nat):Int):=by rw [wr_id (by omega)];omega
  refine (cond_t (ilt_iff.2 (by simp only;omega))).trans ?_
  simp only [e1,Int.toNat_natCast]
  rw [gd_pos (by omega),gd_pos (by omega),cast1 (by omega)]
  by_cases hq : l.getD (i - 1) 0 < l.getD i 0
  ·rw [cond_f (ile_false.2 hq),decide_eq_true hq];rfl
  ·rw [cond_t (ile_iff.2 (by omega)),decide_eq_false hq];rfl
 ·refine (cond_f (ilt_false.2 (by simp only;omega))).trans rfl
set_option maxRecDepth 100000 in
theorem ok115 : con115.Ok Try.prog:=Con.of_goal mixed okN con115 goal115
theorem goal78 : con78.goal Try.prog (spOf [conRead,con115]) g78_sh [] lm30:=by
 have e : (∀ (p:Int) (l:List Int),small l → g78 p l = some (setF p l)) = con78.goal Try.prog (spOf [conRead,con115]) g78_sh [] lm30:=by kernel_rfl
 rw [← e]
 intro p l hl
 unfold g78 setF
 cases (readF p l).2.1 <;> simp [gd_true,hl]
set_option maxRecDepth 100000 in
theorem ok78 : con78.Ok Try.prog:=Con.of_goal mixed (okC okRead (okC ok115 okN)) con78 goal78
end Go.Arcs
namespace Go.Arcs
open Go Go.Ab Go.Proofs
def flt (q : Nat → Bool) (n:Nat) : List Int:=((List.range n).filter q).map (fun (b:Nat)=>(b:Int))
theorem flt_succ {q : Nat → Bool} {n : Nat} : flt q (n + 1) = flt q n ++ (if q n = true then [(n:Int)] else []):=by
 unfold flt
 rw [List.range_succ,List.filter_append,List.map_append]
 congr 1
 by_cases h : q n = true <;> simp [h]
theorem flt_len {q : Nat → Bool} {n : Nat} : (flt q n).length ≤ n:=by
 unfold flt
 rw [List.length_map]
 exact Nat.le_trans (List.length_filter_le _ _) (by simp)
theorem setF_ok {p : Int} {l : List Int} (h : okSet p l = true) : setF p l = (some (planeF p),true,()):=by
 simp only [okSet,Bool.and_eq_true] at h
 simp [setF,readF,h]
theorem setF_no {p : Int} {l : List Int} (h : ¬ okSet p l = true) : (setF p l).2.1 = false:=by
 cases hs : (setF p l).2.1 with
 | false=>rfl
 | true =>
  exfalso
  apply h
  unfold setF readF at hs
  split at hs
  ·rename_i hp
   simp only [Bool.and_eq_true] at hs
   simp [okSet,hp,hs]
  ·simp at hs
theorem okSet_all {p : Int} {l : List Int} (h : okSet p l = true) : isPb p = true ∧ l.all (inPt p) = true ∧ ris l = true:=by
 simp only [okSet,Bool.and_eq_true] at h
 exact ⟨h.1.1,h.1.2,h.2⟩
theorem inPt_nat {p : Int} (hp : isP p) {i : Nat} (h : i < (ptsC p).length) : inPt p (i:Int) = true:=by
 have:=pts_len p (isP_mem hp)
 exact inPt_iff.2 ⟨by omega,by omega⟩
theorem pts_57 {p : Int} (hp : isP p) : (ptsC p).length ≤ 57:=by
 have:=pts_len p (isP_mem hp)
 have : p * p + p + 1 ≤ 57:=by rcases hp with rfl | rfl | rfl | rfl <;> decide
 omega
theorem goal43 : con43.goal Try.prog (spOf []) g43_sh [] lm30:=by
 have e : (∀ (l m:List Int),small l → small m → g43 l m = some (eqLf ieq l m,())) = con43.goal Try.prog (spOf []) g43_sh [] lm30:=by kernel_rfl
 rw [← e]
 intro l m hl hm
 unfold small at hl hm
 have hq : ∀ x y : Int,ieq x y = true ↔ x = y:=fun x y=>ieq_iff
 unfold g43
 by_cases h : l.length = m.length
 ·have hi : ieq (l.length:Int) (m.length:Int) = true:=ieq_iff.2 (by omega)
  rw [hi]
  refine (cond_f rfl).trans ?_
  refine (whileO_chk (st:=fun i : Nat=>((i:Int),())) (lo:=0) (hi:=l.length) (b:=eqLf ieq l m) (Q:=fun i=>ieq (l.getD i 0) (m.getD i 0)) (x:=((false,()) : Bool × Unit)) (y:=((true,()) : Bool × Unit)) (Nat.zero_le _) ?_ ?_ ?_).trans (by cases eqLf ieq l m <;> rfl)
  ·rw [eqLf_iff hq]
   constructor
   ·rintro rfl i _ _;exact ieq_iff.2 rfl
   ·intro hc
    apply List.ext_getElem h
    intro i h1 h2
    have:=ieq_iff.1 (hc i (Nat.zero_le _) h1)
    rwa [List.getD_eq_getElem?_getD,List.getD_eq_getElem?_getD,List.getElem?_eq_getElem h1,List.getElem?_eq_getElem h2] at this
  ·intro i _ h1
   refine (cond_t (ilt_iff.2 (by simp only;omega))).trans ?_
   simp only [Int.toNat_natCast,cast1 (i:=i) (by omega)]
   rw [gd_pos (by omega),gd_pos (by omega)]
   cases ieq (l.getD i 0) (m.getD i 0) <;> rfl
  ·exact (cond_f (ilt_false.2 (by simp only;omega))).trans rfl
 ·have hi : ieq (l.length:Int) (m.length:Int) = false:=by rw [ieq_d];exact decide_eq_false (by omega)
  rw [hi,eqLf_len h]
  rfl
set_option maxRecDepth 100000 in
theorem ok43 : con43.Ok Try.prog:=Con.of_goal mixed okN con43 goal43
end Go.Arcs
namespace Go.Arcs
open Go Go.Ab Go.Proofs
theorem gd_at {α : Type} {l : List α} {i : Nat} {d : α} (h : i < l.length) : l.getD i d = l[i]:=by
 rw [List.getD_eq_getElem?_getD,List.getElem?_eq_getElem h];rfl
end Go.Arcs
namespace Go.Arcs
open Go Go.Ab Go.Proofs
theorem tat_on {p x b : Int} (hp : isP p) (hx : inPt p x = true) (hb : inPt p b = true) : tAt (tabF p) x b = onF p x b:=by
 have hl:=pts_len p (isP_mem hp)
 have h1:=inPt_iff.1 hx
 have h2:=inPt_iff.1 hb
 have a1 : x.toNat < (ptsC p).length:=by omega
 have a2 : b.toNat < (ptsC p).length:=by omega
 unfold tAt onF pt tabF
 rw [gd_at (l:=(ptsC p).map _) (by rw [List.length_map];exact a1),List.getElem_map,gd_at (l:=(ptsC p).map _) (by rw [List.length_map];exact a2),List.getElem_map,gd_at a1,gd_at a2]
theorem ris_cons {x : Int} : ∀ {l : List Int},ris (x :: l) = true → ris l = true ∧ ∀ y ∈ l,x < y
 | [],_=>⟨rfl,fun y hy=>by cases hy⟩
 | z :: l,h=>by
  rw [ris,Bool.and_eq_true,decide_eq_true_eq] at h
  refine ⟨h.2,fun y hy=>?_⟩
  rcases List.mem_cons.1 hy with rfl | hy
  ·exact h.1
  ·have:=(ris_cons h.2).2 y hy
   omega
theorem ris_ge : ∀ {l : List Int},ris l = true → ∀ i,i < l.length → l.getD 0 0 + i ≤ l.getD i 0:=by
 intro l h i
 rw [ris_iff] at h
 induction i with
 | zero=>intro _;simp
 | succ i ih =>
  intro hi
  have h1:=h i hi
  have h2:=ih (by omega)
  omega
theorem ok_len {p : Int} {l : List Int} (h : okSet p l = true) : l.length ≤ 57:=by
 obtain ⟨hpb,hal,hr⟩:=okSet_all h
 have hp:=isPb_iff.1 hpb
 have h57:=pts_57 hp
 have hl:=pts_len p (isP_mem hp)
 rcases Nat.eq_zero_or_pos l.length with h0 | h0
 ·omega
 ·rw [List.all_eq_true] at hal
  have h1:=inPt_iff.1 (hal (l.getD 0 0) (by rw [gd_at h0];exact List.getElem_mem h0))
  have h2:=inPt_iff.1 (hal (l.getD (l.length - 1) 0) (by rw [gd_at (by omega)];exact List.getElem_mem _))
  have h3:=ris_ge hr (l.length - 1) (by omega)
  omega
theorem ris_take : ∀ {l : List Int} {n : Nat},ris l = true → ris (l.take n) = true:=by
 intro l n h
 rw [ris_iff] at h ⊢
 intro i hi
 rw [List.length_take] at hi
 have h1:=h i (by omega)
 rw [gd_at (by omega),gd_at (by omega)] at h1
 rw [gd_at (by rw [List.length_take];omega),gd_at (by rw [List.length_take];omega),List.getElem_take,List.getElem_take]
 exact h1
theorem small_of {l : List Int} (h : l.length ≤ maxLen) : small2 l:=by
 have : maxLen = 9223372036854775807:=by decide
 unfold small2;omega
end Go.Arcs
