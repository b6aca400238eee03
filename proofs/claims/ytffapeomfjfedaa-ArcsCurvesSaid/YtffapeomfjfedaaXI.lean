/- The law Arcs: contracts. -/
import Derived.Test.YtffapeomfjfedaaXH
import Derived.Shelf.Sort.Plain
import Derived.Shelf.Slices.In.SortNone
import Derived.Test.YtffapeomfjfedaaProg
import Derived.Test.YtffapeomfjfedaaAT
import Derived.Sort.OwnSortedInts
import Derived.Test.YtffapeomfjfedaaXC
import Derived.Test.YtffapeomfjfedaaXF
set_option linter.unusedVariables false
set_option linter.unusedSimpArgs false
namespace Go.Arcs
open Go Go.Ab Go.Proofs
noncomputable def arcF (p:Int) (l:List Int) : Bool:=(List.range l.length).all fun i=>(List.range i).all fun j=>(List.range j).all fun h=>!strF p (l.getD h 0) (l.getD j 0) (l.getD i 0)
def setP (p:Int) (l:List Int) : Prop:=l.all (inPt p) = true ∧ l.length ≤ 60
noncomputable def con104 : Con:=mkC 104 [.d (.ptr Plane),.d LI] [.bool] (fun (k : PlaneD) (l:List Int)=>[isPl k,setP k.1 l]) (fun (k : PlaneD) (l:List Int)=>(arcF k.1 l,()))
noncomputable def g104_l0 (x0 : Int × List (Int × Int × Int × Unit) × List ((Int × Int × Int × Unit) × Int) × Unit) (x1:List Int) (d2 d3 d4 : Int × Unit) : Option (Lp (Int × Unit) (Lp (Int × Unit) (Lp (Int × Unit) (Bool × Unit)))):=bif ilt d4.1 d3.1 then gd ((0:Int) ≤ d4.1 ∧ d4.1 < (↑(List.length x1):Int)) (gd ((0:Int) ≤ d3.1 ∧ d3.1 < (↑(List.length x1):Int)) (gd ((0:Int) ≤ d2.1 ∧ d2.1 < (↑(List.length x1):Int)) (gd (isPl x0) (gd (inPt x0.1 (List.getD x1 (Int.toNat d4.1) (0:Int)) = true) (gd (inPt x0.1 (List.getD x1 (Int.toNat d3.1) (0:Int)) = true) (gd (inPt x0.1 (List.getD x1 (Int.toNat d2.1) (0:Int)) = true) (bif strF x0.1 (List.getD x1 (Int.toNat d4.1) (0:Int)) (List.getD x1 (Int.toNat d3.1) (0:Int)) (List.getD x1 (Int.toNat d2.1) (0:Int)) then some (Lp.out (Lp.out (Lp.out ((false,()) : Bool × Unit)))) else some (Lp.go ((wr .i64 (d4.1 + (1:Int)),()) : Int × Unit))))))))) else some (Lp.out (Lp.go ((wr .i64 (d3.1 + (1:Int)),()) : Int × Unit)))
noncomputable def g104_l1 (x0 : Int × List (Int × Int × Int × Unit) × List ((Int × Int × Int × Unit) × Int) × Unit) (x1:List Int) (d2 d3 : Int × Unit) : Option (Lp (Int × Unit) (Lp (Int × Unit) (Bool × Unit))):=bif ilt d3.1 d2.1 then whileO (g104_l0 x0 x1 d2 d3) (((0:Int),()) : Int × Unit) else some (Lp.out (Lp.go ((wr .i64 (d2.1 + (1:Int)),()) : Int × Unit)))
noncomputable def g104 (x0 : Int × List (Int × Int × Int × Unit) × List ((Int × Int × Int × Unit) × Int) × Unit) (x1:List Int) : Option (Bool × Unit):=whileO (fun (d2 : Int × Unit)=>bif ilt d2.1 (↑(List.length x1):Int) then whileO (g104_l1 x0 x1 d2) (((0:Int),()) : Int × Unit) else some (Lp.out ((true,()) : Bool × Unit))) (((0:Int),()) : Int × Unit)
noncomputable def g104_sh : List LSh:=LSh.mk (((10,TV.v (Ty.int IntKind.i64)) : Nat × TV) :: ([] : List (Nat × TV))) ([] : List TB) :: LSh.mk (((14,TV.v (Ty.int IntKind.i64)) : Nat × TV) :: ([] : List (Nat × TV))) ([] : List TB) :: LSh.mk (((18,TV.v (Ty.int IntKind.i64)) : Nat × TV) :: ([] : List (Nat × TV))) ([] : List TB) :: ([] : List LSh)
def plN : PlaneD:=(0,[],[],())
noncomputable def arcR (p:Int) (l:List Int) : Bool:=decide (mostF (tabF p) l ≤ 2)
noncomputable def con59 : Con:=mkC 59 [.d I64,.d LI] [.bool] (fun (p:Int) (l:List Int)=>[isP p,setP p l]) (fun (p:Int) (l:List Int)=>(arcR p l,()))
noncomputable def g59 (x0:Int) (x1:List Int) : Option (Bool × Unit):=gd (isP x0) (gd (sqT (tabF x0)) (gd (∀ (x2:Int),List.Mem x2 x1 → (0:Int) ≤ x2 ∧ x2 < (↑(List.length (tabF x0)):Int)) (gd (small x1) (some ((ile (mostF (tabF x0) x1) (2:Int),()) : Bool × Unit)))))
noncomputable def g59_sh : List LSh:=([] : List LSh)
end Go.Arcs
namespace Go.Arcs
open Go Go.Ab Go.Proofs
section
variable {α : Type} {f : α → Bool} {d : α}
theorem cnt1 {l : List α} : 1 ≤ l.countP f ↔ ∃ i,i < l.length ∧ f (l.getD i d) = true:=by
  rw [show (1 ≤ l.countP f) = (0 < l.countP f) from rfl,List.countP_pos_iff]
  constructor
  · rintro ⟨a,ha,hf⟩
    obtain ⟨i,hi,rfl⟩:=List.getElem_of_mem ha
    exact ⟨i,hi,by rw [gd_at hi];exact hf⟩
  · rintro ⟨i,hi,hf⟩
    rw [gd_at hi] at hf
    exact ⟨_,List.getElem_mem hi,hf⟩
theorem cnt2 : ∀ {l : List α},2 ≤ l.countP f ↔ ∃ j i,j < i ∧ i < l.length ∧ f (l.getD j d) = true ∧ f (l.getD i d) = true
  | []=>by simp
  | x :: l=>by
    rw [List.countP_cons]
    constructor
    · intro h
      by_cases hx : f x = true
      · rw [if_pos hx] at h
        obtain ⟨i,h1,h2⟩:=(cnt1 (d:=d)).1 (show 1 ≤ l.countP f by omega)
        exact ⟨0,i + 1,by omega,by simpa using h1,hx,by simpa using h2⟩
      · rw [if_neg hx] at h
        obtain ⟨j,i,h1,h2,h3,h4⟩:=(cnt2 (l:=l)).1 (by omega)
        exact ⟨j + 1,i + 1,by omega,by simpa using h2,by simpa using h3,by simpa using h4⟩
    · rintro ⟨j,i,h1,h2,h3,h4⟩
      obtain ⟨i,rfl⟩ : ∃ k,i = k + 1:=⟨i - 1,by omega⟩
      rw [List.length_cons] at h2
      rw [List.getD_cons_succ] at h4
      cases j with
      | zero =>
        rw [List.getD_cons_zero] at h3
        rw [if_pos h3]
        have:=(cnt1 (f:=f) (d:=d) (l:=l)).2 ⟨i,by omega,h4⟩
        omega
      | succ j =>
        rw [List.getD_cons_succ] at h3
        have:=(cnt2 (l:=l)).2 ⟨j,i,by omega,by omega,h3,h4⟩
        omega
theorem cnt3 : ∀ {l : List α},3 ≤ l.countP f ↔ ∃ h j i,h < j ∧ j < i ∧ i < l.length ∧ f (l.getD h d) = true ∧ f (l.getD j d) = true ∧ f (l.getD i d) = true
  | []=>by simp
  | x :: l=>by
    rw [List.countP_cons]
    constructor
    · intro h
      by_cases hx : f x = true
      · rw [if_pos hx] at h
        obtain ⟨j,i,h1,h2,h3,h4⟩:=(cnt2 (d:=d)).1 (show 2 ≤ l.countP f by omega)
        exact ⟨0,j + 1,i + 1,by omega,by omega,by simpa using h2,hx,by simpa using h3,by simpa using h4⟩
      · rw [if_neg hx] at h
        obtain ⟨k,j,i,h0,h1,h2,h3,h4,h5⟩:=(cnt3 (l:=l)).1 (by omega)
        exact ⟨k + 1,j + 1,i + 1,by omega,by omega,by simpa using h2,by simpa using h3,by simpa using h4,by simpa using h5⟩
    · rintro ⟨k,j,i,h0,h1,h2,h3,h4,h5⟩
      obtain ⟨i,rfl⟩ : ∃ k,i = k + 1:=⟨i - 1,by omega⟩
      obtain ⟨j,rfl⟩ : ∃ k,j = k + 1:=⟨j - 1,by omega⟩
      rw [List.length_cons] at h2
      rw [List.getD_cons_succ] at h4 h5
      cases k with
      | zero =>
        rw [List.getD_cons_zero] at h3
        rw [if_pos h3]
        have:=(cnt2 (f:=f) (d:=d) (l:=l)).2 ⟨j,i,by omega,by omega,h4,h5⟩
        omega
      | succ k =>
        rw [List.getD_cons_succ] at h3
        have:=(cnt3 (l:=l)).2 ⟨k,j,i,by omega,by omega,by omega,h3,h4,h5⟩
        omega
end
section
variable {p : Int}
theorem range_at {n i : Nat} (h : i < n) : (List.range n).getD i 0 = i:=by
  rw [List.getD_eq_getElem?_getD,List.getElem?_range h];rfl
theorem line_one (hp : isP p) {x y b c : Nat} (hx : x < (ptsC p).length) (hy : y < (ptsC p).length) (hb : b < (ptsC p).length) (hc : c < (ptsC p).length) (hne : x ≠ y) (h1 : onF p x b = true) (h2 : onF p y b = true) (h3 : onF p x c = true) (h4 : onF p y c = true) : b = c:=by
  have h:=through_two hp hx hy hne
  rw [sumN_congr (g:=fun b=>ind (onF p x b && onF p y b)) fun b _=>by cases onF p x b <;> cases onF p y b <;> rfl,sumN_count] at h
  rcases Nat.lt_trichotomy b c with hlt | he | hlt
  · have:=(cnt2 (f:=fun b : Nat=>onF p x b && onF p y b) (d:=0) (l:=List.range (ptsC p).length)).2 ⟨b,c,hlt,by simpa using hc,by rw [range_at hb,h1,h2];rfl,by rw [range_at hc,h3,h4];rfl⟩
    omega
  · exact he
  · have:=(cnt2 (f:=fun b : Nat=>onF p x b && onF p y b) (d:=0) (l:=List.range (ptsC p).length)).2 ⟨c,b,hlt,by simpa using hb,by rw [range_at hc,h3,h4];rfl,by rw [range_at hb,h1,h2];rfl⟩
    omega
theorem in_nat' (hp : isP p) {x : Int} (hx : inPt p x = true) : ∃ n : Nat,x = n ∧ n < (ptsC p).length:=by
  have h1:=inPt_iff.1 hx
  have:=pts_len p (isP_mem hp)
  exact ⟨x.toNat,by omega,by omega⟩
theorem str_iff (hp : isP p) {a b c : Int} (ha : inPt p a = true) (hb : inPt p b = true) (hc : inPt p c = true) (hab : a ≠ b) : strF p a b c = true ↔ ∃ k : Nat,k < (ptsC p).length ∧ onF p a k = true ∧ onF p b k = true ∧ onF p c k = true:=by
  rw [str_on hp ha hb hc hab,← thr_join hp ha hb hab]
  obtain ⟨j1,j2,j3⟩:=join_on hp ha hb hab
  obtain ⟨n,hn,hn2⟩:=in_nat' hp j1
  rw [hn] at j2 j3 ⊢
  constructor
  · exact fun h=>⟨n,hn2,j2,j3,h⟩
  · rintro ⟨k,k1,k2,k3,k4⟩
    obtain ⟨x,rfl,hx⟩:=in_nat' hp ha
    obtain ⟨y,rfl,hy⟩:=in_nat' hp hb
    have:=line_one hp hx hy hn2 k1 (fun e=>hab (by rw [e])) j2 j3 k2 k3
    rw [this];exact k4
theorem ris_pw : ∀ {l : List Int},ris l = true → l.Pairwise (· < ·)
  | [],_=>List.Pairwise.nil
  | x :: l,h=>by
    obtain ⟨h1,h2⟩:=ris_cons h
    exact List.Pairwise.cons h2 (ris_pw h1)
theorem ris_at {l : List Int} (hr : ris l = true) {i j : Nat} (hj : j < i) (hi : i < l.length) : l.getD j 0 < l.getD i 0:=by
  rw [gd_at hi,gd_at (show j < l.length by omega)]
  exact List.pairwise_iff_getElem.1 (ris_pw hr) j i (by omega) hi hj
theorem all_at {q : Int → Bool} {l : List Int} (h : l.all q = true) {i : Nat} (hi : i < l.length) : q (l.getD i 0) = true:=by
  rw [gd_at hi];exact List.all_eq_true.1 h _ (List.getElem_mem hi)
variable {l : List Int}
theorem arc_iff (hp : isP p) (hl : l.all (inPt p) = true) (hr : ris l = true) : arcF p l = true ↔ ∀ b : Nat,b < (ptsC p).length → meetsF p l b ≤ 2:=by
  have e1 : arcF p l = true ↔ ∀ i j h,h < j → j < i → i < l.length → strF p (l.getD h 0) (l.getD j 0) (l.getD i 0) = false:=by
    unfold arcF
    simp only [List.all_eq_true,List.mem_range,Bool.not_eq_true']
    exact ⟨fun H i j h h1 h2 h3=>H i h3 j h2 h h1,fun H i h3 j h2 h h1=>H i j h h1 h2 h3⟩
  rw [e1]
  constructor
  · intro H b hb
    rcases (show 2 < meetsF p l b ∨ meetsF p l b ≤ 2 by omega) with hlt | hle
    · exfalso
      unfold meetsF at hlt
      obtain ⟨h,j,i,h1,h2,h3,h4,h5,h6⟩:=(cnt3 (f:=fun x=>onF p x b) (d:=(0:Int)) (l:=l)).1 (by omega)
      have:=H i j h h1 h2 h3
      rw [(str_iff hp (all_at hl (by omega)) (all_at hl (by omega)) (all_at hl h3) (by have:=ris_at hr h1 (by omega);omega)).2 ⟨b,hb,h4,h5,h6⟩] at this
      cases this
    · exact hle
  · intro H i j h h1 h2 h3
    rw [Bool.eq_false_iff]
    intro hs
    obtain ⟨b,b1,b2,b3,b4⟩:=(str_iff hp (all_at hl (by omega)) (all_at hl (by omega)) (all_at hl h3) (by have:=ris_at hr h1 (by omega);omega)).1 hs
    have:=(cnt3 (f:=fun x=>onF p x b) (d:=(0:Int)) (l:=l)).2 ⟨h,j,i,h1,h2,h3,b2,b3,b4⟩
    have h4:=H b b1
    unfold meetsF at h4
    omega
theorem arcR_iff (hp : isP p) (hl : l.all (inPt p) = true) : arcR p l = true ↔ ∀ b : Nat,b < (ptsC p).length → meetsF p l b ≤ 2:=by
  unfold arcR mostF
  rw [decide_eq_true_eq,fold_max,tab_len]
  constructor
  · intro h b hb
    rw [← count_tab hp hl hb];exact h.2 b hb
  · intro h
    exact ⟨by omega,fun b hb=>by rw [count_tab hp hl hb];exact h b hb⟩
theorem arc_eq (hp : isP p) (hl : l.all (inPt p) = true) (hr : ris l = true) : arcR p l = arcF p l:=by
  rw [Bool.eq_iff_iff,arc_iff hp hl hr,arcR_iff hp hl]
end
end Go.Arcs
namespace Go.Arcs
open Go Go.Ab Go.Proofs
theorem rng_all {n : Nat} {Q : Nat → Bool} : (List.range n).all Q = true ↔ ∀ i,0 ≤ i → i < n → Q i = true:=by
  rw [List.all_eq_true]
  exact ⟨fun h i _ hi=>h i (List.mem_range.2 hi),fun h i hi=>h i (Nat.zero_le _) (List.mem_range.1 hi)⟩
abbrev I1D:=Int × Unit
noncomputable def arcQ (p:Int) (l:List Int) (i j:Nat) : Bool:=(List.range j).all fun h=>!strF p (l.getD h 0) (l.getD j 0) (l.getD i 0)
noncomputable def arcP (p:Int) (l:List Int) (i:Nat) : Bool:=(List.range i).all (arcQ p l i)
theorem in104a {k : PlaneD} {l : List Int} (hk : isPl k) (hl : l.all (inPt k.1) = true) (h60 : l.length ≤ 60) {i j : Nat} (hi : i < l.length) (hj : j < i) :
    whileO (g104_l0 k l ((i:Int),()) ((j:Int),())) (((0:Int),()) : I1D) = some (cond (arcQ k.1 l i j) (.go (((j + 1:Nat):Int),())) (.out (.out (false,())))):=by
  refine whileO_chk (st:=fun h : Nat=>(((h:Int),()) : I1D)) (lo:=0) (hi:=j) (Q:=fun h=>!strF k.1 (l.getD h 0) (l.getD j 0) (l.getD i 0)) (b:=arcQ k.1 l i j) (x:=Lp.out (Lp.out ((false,()) : Bool × Unit))) (y:=Lp.go ((((j + 1:Nat):Int),()) : I1D)) (Nat.zero_le _) rng_all (fun h _ hh=>?_) ?_
  · unfold g104_l0
    dsimp only
    rw [cond_t (ilt_iff.2 (by omega)),gd_pos (by omega),gd_pos (by omega),gd_pos (by omega),gd_pos hk]
    simp only [Int.toNat_natCast]
    rw [gd_pos (all_at hl (by omega)),gd_pos (all_at hl (by omega)),gd_pos (all_at hl hi),cast1 (by omega)]
    cases strF k.1 (l.getD h 0) (l.getD j 0) (l.getD i 0) <;> rfl
  · unfold g104_l0
    dsimp only
    rw [cond_f (ilt_false.2 (by omega)),cast1 (by omega)]
theorem in104b {k : PlaneD} {l : List Int} (hk : isPl k) (hl : l.all (inPt k.1) = true) (h60 : l.length ≤ 60) {i : Nat} (hi : i < l.length) :
    whileO (g104_l1 k l ((i:Int),())) (((0:Int),()) : I1D) = some (cond (arcP k.1 l i) (.go (((i + 1:Nat):Int),())) (.out (false,()))):=by
  refine whileO_chk (st:=fun j : Nat=>(((j:Int),()) : I1D)) (lo:=0) (hi:=i) (Q:=arcQ k.1 l i) (b:=arcP k.1 l i) (x:=Lp.out ((false,()) : Bool × Unit)) (y:=Lp.go ((((i + 1:Nat):Int),()) : I1D)) (Nat.zero_le _) rng_all (fun j _ hj=>?_) ?_
  · unfold g104_l1
    dsimp only
    rw [cond_t (ilt_iff.2 (by omega)),in104a hk hl h60 hi hj]
  · unfold g104_l1
    dsimp only
    rw [cond_f (ilt_false.2 (by omega)),cast1 (by omega)]
theorem goal104 : con104.goal Try.prog (spOf [con71]) g104_sh [] lm30:=by
  have e : (∀ (k : PlaneD) (l:List Int),isPl k → setP k.1 l → g104 k l = some (arcF k.1 l,())) = con104.goal Try.prog (spOf [con71]) g104_sh [] lm30:=by kernel_rfl
  rw [← e]
  rintro k l hk ⟨hl,h60⟩
  unfold g104
  refine (whileO_chk (st:=fun i : Nat=>(((i:Int),()) : I1D)) (lo:=0) (hi:=l.length) (Q:=arcP k.1 l) (b:=arcF k.1 l) (x:=((false,()) : Bool × Unit)) (y:=((true,()) : Bool × Unit)) (Nat.zero_le _) rng_all (fun i _ hi=>?_) ?_).trans (by cases arcF k.1 l <;> rfl)
  · dsimp only
    rw [cond_t (ilt_iff.2 (by omega)),in104b hk hl h60 hi]
  · dsimp only
    rw [cond_f (ilt_false.2 (by omega))]
set_option maxRecDepth 100000 in
theorem ok104 : con104.Ok Try.prog:=Con.of_goal mixed (okC ok71 okN) con104 goal104
theorem set_pl {p : Int} {l : List Int} (h : okSet p l = true) : isPl (planeF p) ∧ setP p l ∧ isP p:=by
  obtain ⟨h1,h2,h3⟩:=okSet_all h
  exact ⟨⟨isPb_iff.1 h1,rfl⟩,⟨h2,by have:=ok_len h;omega⟩,isPb_iff.1 h1⟩
end Go.Arcs
namespace Go.Arcs
open Go Go.Ab Go.Proofs
section
variable {p : Int}
end
theorem ile_d {x y : Int} : ile x y = decide (x ≤ y):=by
  rw [Bool.eq_iff_iff,ile_iff,decide_eq_true_eq]
theorem goal59 : con59.goal Try.prog (spOf [con81,con85]) g59_sh [] lm30:=by
  have e : (∀ (p:Int) (l:List Int),isP p → setP p l → g59 p l = some (arcR p l,())) = con59.goal Try.prog (spOf [con81,con85]) g59_sh [] lm30:=by kernel_rfl
  rw [← e]
  rintro p l hp ⟨hl,h60⟩
  unfold g59 arcR
  rw [gd_pos hp,gd_pos (tab_sq hp)]
  refine (gd_pos (all_rng hp hl)).trans ?_
  rw [gd_pos (by unfold small;omega),ile_d]
set_option maxRecDepth 100000 in
theorem ok59 : con59.Ok Try.prog:=Con.of_goal mixed (okC ok81 (okC ok85 okN)) con59 goal59
end Go.Arcs
namespace Go.Arcs
open Go Go.Ab Go.Proofs
end Go.Arcs
namespace Go.Arcs
open Go Go.Ab Go.Proofs
end Go.Arcs
namespace Go.Arcs
open Go Go.Ab Go.Proofs
section
variable {p : Int} {l : List Int}
end
end Go.Arcs
