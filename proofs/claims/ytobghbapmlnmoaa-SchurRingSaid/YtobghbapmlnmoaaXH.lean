/- Fillings: which ones are made,and that none is made twice. -/
import Derived.Test.YtobghbapmlnmoaaXE
set_option linter.unusedVariables false
set_option linter.unusedSimpArgs false
namespace Go.Schur
open Go Go.Ab Go.Proofs
def Ord (inner:List Int) (T:List (List Int)) : Prop:=∀ i j : Nat,i < T.length → j < (T.getD i []).length →
  (0 < j → (T.getD i []).getD (j - 1) 0 ≤ (T.getD i []).getD j 0) ∧ (0 < i → atF inner T ((i:Int) - 1) (rowF inner i + j) < (T.getD i []).getD j 0)
structure Tab (inner outer:List Int) (most:Int) (T:List (List Int)) : Prop where
  len : T.length = outer.length
  row : ∀ i : Nat,i < T.length → rowF inner i + ((T.getD i []).length:Int) = rowF outer i
  ent : ∀ r ∈ T,∀ x ∈ r,1 ≤ x ∧ x ≤ most
  ord : Ord inner T
inductive Pre : List (List Int) → List (List Int) → Prop
  | nil (T:List (List Int)) : Pre [] T
  | app (R:List (List Int)) (r s:List Int) (U:List (List Int)) : Pre (R ++ [r]) (R ++ (r ++ s) :: U)
theorem atF_congr {inner : List Int} {T T' : List (List Int)} {i j : Int} (h : T.getD i.toNat [] = T'.getD i.toNat []) : atF inner T i j = atF inner T' i j:=by
  unfold atF;rw [h]
theorem getD_mid {A : Type} (R U : List A) (r d : A) : (R ++ r :: U).getD R.length d = r:=by
  rw [List.getD_eq_getElem?_getD,List.getElem?_append_right (Nat.le_refl _)];simp
theorem getD_left {A : Type} {R U : List A} {d : A} {i : Nat} (h : i < R.length) : (R ++ U).getD i d = R.getD i d:=by
  simp [List.getD_eq_getElem?_getD,List.getElem?_append_left h]
theorem getD_out {A : Type} {l : List A} {d : A} {i : Nat} (h : l.length ≤ i) : l.getD i d = d:=by
  simp [List.getD_eq_getElem?_getD,List.getElem?_eq_none h]
def aboveF (inner:List Int) (R:List (List Int)) (r:List Int) : Int:=atF inner (R ++ [r]) ((R.length:Int) - 1) (rowF inner R.length + r.length)
theorem above_eq {inner : List Int} {R U : List (List Int)} {r r' : List Int} : atF inner (R ++ r' :: U) ((R.length:Int) - 1) (rowF inner R.length + r.length) = aboveF inner R r:=by
  unfold aboveF
  by_cases h0 : R.length = 0
  · unfold atF;rw [if_pos (.inl (by omega)),if_pos (.inl (by omega))]
  · refine atF_congr ?_
    rw [show ((R.length:Int) - 1).toNat = R.length - 1 by omega,getD_left (by omega),getD_left (by omega)]
theorem least_iff {inner : List Int} {R : List (List Int)} {r : List Int} {x : Int} : leastF inner (R ++ [r]) ≤ x ↔ 1 ≤ x ∧ aboveF inner R r < x ∧ (r ≠ [] → r.getLastD 0 ≤ x):=by
  unfold leastF aboveF
  rw [last_app,show (((R ++ [r]).length:Nat):Int) - 2 = (R.length:Int) - 1 by simp;omega,show (((R ++ [r]).length:Nat):Int) - 1 = (R.length:Int) by simp]
  by_cases hr : r = []
  · rw [if_pos hr];simp [hr];omega
  · rw [if_neg hr];simp [hr];omega
theorem ord_box {inner : List Int} {R : List (List Int)} {r : List Int} {x : Int} (h : Ord inner (R ++ [r])) (hx : leastF inner (R ++ [r]) ≤ x) : Ord inner (R ++ [r ++ [x]]):=by
  obtain ⟨x1,x2,x3⟩:=least_iff.1 hx
  intro i j hi hj
  simp only [List.length_append,List.length_cons,List.length_nil] at hi
  have hlt : i < (R ++ [r]).length:=by simp;omega
  by_cases h1 : i < R.length
  · rw [getD_left h1] at hj ⊢
    obtain ⟨k1,k2⟩:=h i j hlt (by rw [getD_left h1];exact hj)
    rw [getD_left h1] at k1 k2
    refine ⟨k1,fun h0=>?_⟩
    have:=k2 h0
    rwa [atF_congr (T':=R ++ [r ++ [x]]) (by rw [show ((i:Int) - 1).toNat = i - 1 by omega,getD_left (by omega),getD_left (by omega)])] at this
  · have : i = R.length:=by omega
    subst this
    rw [getD_mid] at hj ⊢
    simp only [List.length_append,List.length_cons,List.length_nil] at hj
    by_cases hjr : j < r.length
    · obtain ⟨k1,k2⟩:=h R.length j hlt (by rw [getD_mid];exact hjr)
      rw [getD_mid] at k1 k2
      rw [getD_left hjr]
      refine ⟨fun h0=>?_,fun h0=>?_⟩
      · rw [getD_left (by omega)];exact k1 h0
      · have:=k2 h0
        rwa [atF_congr (T':=R ++ [r ++ [x]]) (by rw [show ((R.length:Int) - 1).toNat = R.length - 1 by omega,getD_left (by omega),getD_left (by omega)])] at this
    · have : j = r.length:=by omega
      subst this
      rw [getD_mid,above_eq]
      refine ⟨fun h0=>?_,fun _=>x2⟩
      rw [getD_left (by omega),← last_getD]
      exact x3 (fun e=>by subst e;simp at h0)
theorem ord_least {inner : List Int} {R : List (List Int)} {r s : List Int} {x : Int} {U : List (List Int)} (h : Ord inner (R ++ (r ++ x :: s) :: U)) (h1 : 1 ≤ x) : leastF inner (R ++ [r]) ≤ x:=by
  obtain ⟨k1,k2⟩:=h R.length r.length (by simp) (by rw [getD_mid];simp)
  rw [getD_mid,getD_mid] at k1 k2
  rw [above_eq] at k2
  refine least_iff.2 ⟨h1,?_,fun hr=>?_⟩
  · by_cases h0 : 0 < R.length
    · exact k2 h0
    · unfold aboveF atF
      rw [if_pos (.inl (by omega))];omega
  · have hp : 0 < r.length:=List.length_pos_iff.2 hr
    have:=k1 hp
    rw [getD_left (by omega)] at this
    rw [last_getD];exact this
theorem ord_open {inner : List Int} {rows : List (List Int)} (h : Ord inner rows) : Ord inner (rows ++ [[]]):=by
  intro i j hi hj
  simp only [List.length_append,List.length_cons,List.length_nil] at hi
  by_cases h1 : i < rows.length
  · rw [getD_left h1] at hj ⊢
    obtain ⟨k1,k2⟩:=h i j h1 hj
    refine ⟨k1,fun h0=>?_⟩
    have:=k2 h0
    rwa [atF_congr (T':=rows ++ [[]]) (by rw [show ((i:Int) - 1).toNat = i - 1 by omega,getD_left (by omega)])] at this
  · have : i = rows.length:=by omega
    subst this
    rw [getD_mid] at hj
    simp at hj
def cnt (x:Int) (T:List (List Int)) : Nat:=T.flatten.count x
theorem cnt_pre {R : List (List Int)} {r s : List Int} {U : List (List Int)} {x : Int} : cnt x (R ++ (r ++ s) :: U) = cnt x (R ++ [r]) + (s.count x + cnt x U):=by
  simp [cnt,List.count_append];omega
theorem cnt_box {R : List (List Int)} {r : List Int} {x y : Int} : cnt x (R ++ [r ++ [y]]) = cnt x (R ++ [r]) + (if y = x then 1 else 0):=by
  simp only [cnt,List.flatten_append,List.flatten_cons,List.flatten_nil,List.append_nil,List.count_append,List.count_cons,List.count_nil,beq_iff_eq]
  split <;> omega
theorem cnt_open {rows : List (List Int)} {x : Int} : cnt x (rows ++ [[]]) = cnt x rows:=by simp [cnt]
theorem mem_catX_iff {A : Type} {g : Int → List A} {t : A} : ∀ {c : Nat} {x : Int},t ∈ catX g c x ↔ ∃ y,x ≤ y ∧ y < x + c ∧ t ∈ g y
  | 0,x=>by simp [catX];intro y h1 h2;omega
  | c + 1,x=>by
    rw [catX,List.mem_append,mem_catX_iff (c:=c)]
    constructor
    · rintro (h | ⟨y,h1,h2,h3⟩)
      · exact ⟨x,by omega,by omega,h⟩
      · exact ⟨y,by omega,by omega,h3⟩
    · rintro ⟨y,h1,h2,h3⟩
      by_cases hy : y = x
      · subst hy;exact .inl h3
      · exact .inr ⟨y,by omega,by omega,h3⟩
theorem nodup_catX {A : Type} {g : Int → List A} : ∀ {c : Nat} {x : Int},(∀ y,x ≤ y → y < x + c → (g y).Nodup) → (∀ y z t,x ≤ y → y < z → z < x + c → t ∈ g y → t ∉ g z) → (catX g c x).Nodup
  | 0,x,_,_=>by simp [catX]
  | c + 1,x,h1,h2=>by
    rw [catX,List.nodup_append]
    refine ⟨h1 x (by omega) (by omega),nodup_catX (fun y h3 h4=>h1 y (by omega) (by omega)) (fun y z t h3 h4 h5=>h2 y z t (by omega) h4 (by omega)),fun t ht u hu=>?_⟩
    obtain ⟨z,h3,h4,h5⟩:=mem_catX_iff.1 hu
    rintro rfl
    exact h2 x z t (by omega) (by omega) (by omega) ht h5
def Left (most:Int) (left:List Int) (rows T:List (List Int)) : Prop:=∀ x : Int,1 ≤ x → x ≤ most → left.getD (x - 1).toNat 0 + cnt x rows = cnt x T
theorem pre_eq {R : List (List Int)} {r : List Int} {T : List (List Int)} (h : Pre (R ++ [r]) T) : ∃ s U,T = R ++ (r ++ s) :: U:=by
  generalize hx : R ++ [r] = X at h
  cases h with
  | nil=>simp at hx
  | app R' r' s U =>
    obtain ⟨rfl,h2⟩:=List.append_inj' hx rfl
    cases h2
    exact ⟨s,U,rfl⟩
theorem sumN_zero : ∀ {l : List Int} {i : Nat},(∀ x ∈ l,0 ≤ x) → sumN l = 0 → l.getD i 0 = 0
  | [],i,_,_=>by simp
  | a :: l,i,h,h0=>by
    simp only [sumN,List.map_cons,List.sum_cons] at h0
    have ha:=h a (by simp)
    cases i with
    | zero=>simp;omega
    | succ i=>simpa using sumN_zero (l:=l) (i:=i) (fun x hx=>h x (by simp [hx])) (by unfold sumN;omega)
theorem pre_last {R : List (List Int)} {r : List Int} {T : List (List Int)} (h : Pre (R ++ [r]) T) (hl : T.length = R.length + 1) (hr : (T.getD R.length []).length = r.length) : T = R ++ [r]:=by
  obtain ⟨s,U,rfl⟩:=pre_eq h
  have hU : U = []:=List.length_eq_zero_iff.1 (by simp only [List.length_append,List.length_cons] at hl;omega)
  subst hU
  rw [getD_mid] at hr
  have : s = []:=List.length_eq_zero_iff.1 (by rw [List.length_append] at hr;omega)
  subst this
  simp
theorem pre_openI {rows T : List (List Int)} (h : Pre rows T) (hlt : rows.length < T.length) (hrow : ∀ i : Nat,i + 1 = rows.length → (T.getD i []).length = (rows.getD i []).length) : Pre (rows ++ [[]]) T:=by
  cases h with
  | nil =>
    cases T with
    | nil=>simp at hlt
    | cons r U=>exact Pre.app [] [] r U
  | app R r s U =>
    have h1:=hrow R.length (by simp)
    rw [getD_mid,getD_mid] at h1
    have : s = []:=List.length_eq_zero_iff.1 (by rw [List.length_append] at h1;omega)
    subst this
    cases U with
    | nil=>simp at hlt
    | cons u U =>
      have:=Pre.app (R ++ [r]) [] u U
      simpa using this
theorem pre_openE {rows T : List (List Int)} (h : Pre (rows ++ [[]]) T) : Pre rows T:=by
  obtain ⟨s,U,rfl⟩:=pre_eq h
  rcases List.eq_nil_or_concat rows with rfl | ⟨R,r,rfl⟩
  · exact .nil _
  · have:=Pre.app R r [] (([] ++ s) :: U)
    simpa using this
structure Sums (inner outer left:List Int) (most:Int) (rows:List (List Int)) (N:Nat) : Prop where
  tot : ∀ T,Tab inner outer most T → T.flatten.length = N
  sum : sumN left + rows.flatten.length = N
theorem fil_iff {inner outer : List Int} {most : Int} {nul : Bool} {T : List (List Int)} {N : Nat} : ∀ {n : Nat} {left : List Int} {rows : List (List Int)}, preM n inner outer left most nul rows → Ord inner rows → (nul = false → Sums inner outer left most rows N) →
    (T ∈ fil inner outer most nul n left rows ↔ Tab inner outer most T ∧ Pre rows T ∧ (nul = false → Left most left rows T))
  | 0,left,rows,hp,_,_=>by have:=hp.mu;omega
  | n + 1,left,rows,hp,ho,hs=>by
    rw [fil]
    by_cases hf : full inner outer rows = true
    · rw [if_pos hf]
      have hlastrow : ∀ i : Nat,i + 1 = rows.length → rowF inner i + ((rows.getD i []).length:Int) = rowF outer i:=fun i hi=>by
        have hne : rows ≠ []:=fun e=>by subst e;simp at hi
        obtain ⟨R,r,rfl⟩ : ∃ R r,rows = R ++ [r]:=⟨rows.dropLast,rows.getLast hne,(List.dropLast_concat_getLast hne).symm⟩
        rw [full_app] at hf
        simp only [List.length_append,List.length_cons,List.length_nil] at hi
        have : i = R.length:=by omega
        subst this
        rw [getD_app]
        exact of_decide_eq_true hf
      by_cases hl : rows.length = outer.length
      · rw [if_pos hl,List.mem_singleton]
        constructor
        · rintro rfl
          have hT : Tab inner outer most T:=⟨hl,fun i hi=>by
            by_cases h1 : i + 1 < T.length
            · exact hp.fl i h1
            · exact hlastrow i (by omega),hp.ent,ho⟩
          refine ⟨hT,?_,fun hn x h1 h2=>?_⟩
          · rcases List.eq_nil_or_concat T with rfl | ⟨R,r,rfl⟩
            · exact .nil _
            · have:=Pre.app R r [] []
              simpa using this
          · have hs:=hs hn
            have h3:=hs.tot T hT
            have h4:=hs.sum
            rw [sumN_zero (fun x hx=>((hp.lf hn).2 x hx).1) (by omega)]
            simp
        · rintro ⟨h1,h2,h3⟩
          rcases List.eq_nil_or_concat rows with rfl | ⟨R,r,rfl⟩
          · simp only [List.length_nil] at hl
            exact List.length_eq_zero_iff.1 (by rw [h1.len];exact hl.symm)
          · rw [List.concat_eq_append] at *
            simp only [List.length_append,List.length_cons,List.length_nil] at hl
            refine pre_last h2 (by rw [h1.len];omega) ?_
            have k1:=h1.row R.length (by rw [h1.len];omega)
            have k2:=hlastrow R.length (by simp)
            rw [getD_app] at k2
            omega
      · rw [if_neg hl,fil_iff (hp.open_ hf hl) (ord_open ho) (fun hn=>⟨(hs hn).tot,by simpa using (hs hn).sum⟩)]
        constructor
        · rintro ⟨h1,h2,h3⟩
          exact ⟨h1,pre_openE h2,fun hn x h4 h5=>by have:=h3 hn x h4 h5;rwa [cnt_open] at this⟩
        · rintro ⟨h1,h2,h3⟩
          refine ⟨h1,pre_openI h2 (by rw [h1.len];have:=hp.len;omega) (fun i hi=>?_),fun hn x h4 h5=>by rw [cnt_open];exact h3 hn x h4 h5⟩
          have k1:=h1.row i (by rw [h1.len];have:=hp.len;omega)
          have k2:=hlastrow i hi
          omega
    · rw [if_neg hf]
      have hf : full inner outer rows = false:=by simpa using hf
      rcases List.eq_nil_or_concat rows with rfl | ⟨R,r,rfl⟩
      · simp [full] at hf
      rw [List.concat_eq_append] at *
      have hlt:=hp.lt8 hf
      rw [mem_catX_iff]
      have hbox : ∀ {y : Int} {l : List Int}, leastF inner (R ++ [r]) ≤ y → y ≤ most → (nul = false → l.length = most ∧ ∀ x ∈ l, 0 ≤ x ∧ x ≤ 8) → (nul = false → sumN l + 1 = sumN left) →
          (T ∈ fil inner outer most nul n l (R ++ [r ++ [y]]) ↔ Tab inner outer most T ∧ Pre (R ++ [r ++ [y]]) T ∧ (nul = false → Left most l (R ++ [r ++ [y]]) T)):=fun {y l} h1 h2 h3 h4 =>
        fil_iff (hp.box hf ⟨(least_iff.1 h1).1,h2⟩ h3) (ord_box ho h1) (fun hn=>⟨(hs hn).tot,by have:=(hs hn).sum;have:=h4 hn;simp only [List.flatten_append,List.flatten_cons,List.flatten_nil,List.append_nil,List.length_append,List.length_cons,List.length_nil] at *;omega⟩)
      have hpre : ∀ {y : Int},Pre (R ++ [r ++ [y]]) T → Pre (R ++ [r]) T:=fun {y} h=>by
        obtain ⟨s,U,rfl⟩:=pre_eq h
        rw [List.append_assoc]
        exact Pre.app R r _ U
      have hnext : Tab inner outer most T → Pre (R ++ [r]) T → ∃ y,Pre (R ++ [r ++ [y]]) T ∧ leastF inner (R ++ [r]) ≤ y ∧ y ≤ most ∧ cnt y (R ++ [r]) + 1 ≤ cnt y T:=fun h1 h2=>by
        obtain ⟨s,U,rfl⟩:=pre_eq h2
        have h3:=h1.row R.length (by simp)
        rw [getD_mid] at h3
        cases s with
        | nil=>simp only [List.append_nil] at h3;omega
        | cons y s =>
          have he:=h1.ent (r ++ y :: s) (by simp) y (by simp)
          refine ⟨y,?_,ord_least h1.ord he.1,he.2,?_⟩
          · have:=Pre.app R (r ++ [y]) s U
            simpa using this
          · rw [cnt_pre,List.count_cons_self];omega
      cases nul with
      | true =>
        constructor
        · rintro ⟨y,h1,h2,h3⟩
          unfold useX at h3
          rw [if_pos rfl,addX_app,hbox h1 (by omega) (fun h=>by cases h) (fun h=>by cases h)] at h3
          exact ⟨h3.1,hpre h3.2.1,fun h=>by cases h⟩
        · rintro ⟨h1,h2,h3⟩
          obtain ⟨y,k1,k2,k3,_⟩:=hnext h1 h2
          refine ⟨y,k2,by omega,?_⟩
          unfold useX
          rw [if_pos rfl,addX_app,hbox k2 k3 (fun h=>by cases h) (fun h=>by cases h)]
          exact ⟨h1,k1,fun h=>by cases h⟩
      | false =>
        have hlf:=hp.lf rfl
        have hq : ∀ {y : Int},1 ≤ y → y ≤ most → (y - 1).toNat < left.length:=fun {y} h1 h2=>by omega
        have hset : ∀ {y : Int},1 ≤ y → y ≤ most → left.getD (y - 1).toNat 0 ≠ 0 → ((left.set (y - 1).toNat (left.getD (y - 1).toNat 0 - 1)).length:Int) = most ∧ ∀ x ∈ left.set (y - 1).toNat (left.getD (y - 1).toNat 0 - 1),0 ≤ x ∧ x ≤ 8:=fun {y} h1 h2 hz=>by
          have hv:=hlf.2 _ (mem_getD (d:=0) (hq h1 h2))
          refine ⟨by simpa using hlf.1,fun z hy=>?_⟩
          rcases List.mem_or_eq_of_mem_set hy with h2 | h2
          · exact hlf.2 z h2
          · omega
        have hsum : ∀ {y : Int},1 ≤ y → y ≤ most → left.getD (y - 1).toNat 0 ≠ 0 → sumN (left.set (y - 1).toNat (left.getD (y - 1).toNat 0 - 1)) + 1 = sumN left:=fun {y} h1 h2 hz=>by
          have hv:=hlf.2 _ (mem_getD (d:=0) (hq h1 h2))
          exact sumN_set (hq h1 h2) (by omega)
        have hleft : ∀ {y : Int},1 ≤ y → y ≤ most → left.getD (y - 1).toNat 0 ≠ 0 → (Left most (left.set (y - 1).toNat (left.getD (y - 1).toNat 0 - 1)) (R ++ [r ++ [y]]) T ↔ Left most left (R ++ [r]) T):=fun {y} h1 h2 hz=>by
          have hqy:=hq h1 h2
          unfold Left
          refine forall_congr' fun x=>forall_congr' fun h3=>forall_congr' fun h4=>?_
          rw [cnt_box]
          by_cases hxy : y = x
          · subst hxy
            rw [if_pos rfl]
            have : (left.set (y - 1).toNat (left.getD (y - 1).toNat 0 - 1)).getD (y - 1).toNat 0 = left.getD (y - 1).toNat 0 - 1:=by
              rw [List.getD_eq_getElem?_getD,List.getElem?_set_self hqy];rfl
            rw [this];omega
          · rw [if_neg hxy]
            have hne : (y - 1).toNat ≠ (x - 1).toNat:=by omega
            have : (left.set (y - 1).toNat (left.getD (y - 1).toNat 0 - 1)).getD (x - 1).toNat 0 = left.getD (x - 1).toNat 0:=by
              rw [List.getD_eq_getElem?_getD,List.getElem?_set_ne hne,← List.getD_eq_getElem?_getD]
            rw [this];omega
        constructor
        · rintro ⟨y,h1,h2,h3⟩
          have hy1:=(least_iff.1 h1).1
          unfold useX at h3
          rw [if_neg (by simp)] at h3
          split at h3
          · cases h3
          · rename_i hz
            rw [addX_app,hbox h1 (by omega) (fun _=>hset hy1 (by omega) hz) (fun _=>hsum hy1 (by omega) hz)] at h3
            exact ⟨h3.1,hpre h3.2.1,fun _=>(hleft hy1 (by omega) hz).1 (h3.2.2 rfl)⟩
        · rintro ⟨h1,h2,h3⟩
          obtain ⟨y,k1,k2,k3,k4⟩:=hnext h1 h2
          have hy1:=(least_iff.1 k2).1
          have hz : left.getD (y - 1).toNat 0 ≠ 0:=by
            have:=h3 rfl y hy1 k3
            omega
          refine ⟨y,k2,by omega,?_⟩
          unfold useX
          rw [if_neg (by simp),if_neg hz,addX_app,hbox k2 k3 (fun _=>hset hy1 k3 hz) (fun _=>hsum hy1 k3 hz)]
          exact ⟨h1,k1,fun _=>(hleft hy1 k3 hz).2 (h3 rfl)⟩
theorem fil_pre {inner outer : List Int} {most : Int} {nul : Bool} {T : List (List Int)} : ∀ {n : Nat} {left : List Int} {rows : List (List Int)},T ∈ fil inner outer most nul n left rows → Pre rows T
  | 0,left,rows,h=>by simp [fil] at h
  | n + 1,left,rows,h=>by
    rw [fil] at h
    split at h
    · split at h
      · rw [List.mem_singleton.1 h]
        rcases List.eq_nil_or_concat rows with rfl | ⟨R,r,rfl⟩
        · exact .nil _
        · have:=Pre.app R r [] []
          simpa using this
      · exact pre_openE (fil_pre h)
    · rename_i hf
      have hf : full inner outer rows = false:=by simpa using hf
      rcases List.eq_nil_or_concat rows with rfl | ⟨R,r,rfl⟩
      · simp [full] at hf
      rw [List.concat_eq_append] at *
      obtain ⟨y,h1,h2,h3⟩:=mem_catX_iff.1 h
      have key : ∀ l,T ∈ fil inner outer most nul n l (addX (R ++ [r]) y) → Pre (R ++ [r]) T:=fun l h=>by
        rw [addX_app] at h
        obtain ⟨s,U,rfl⟩:=pre_eq (fil_pre h)
        rw [List.append_assoc]
        exact Pre.app R r _ U
      unfold useX at h3
      split at h3
      · exact key _ h3
      · split at h3
        · cases h3
        · exact key _ h3
theorem fil_nodup {inner outer : List Int} {most : Int} {nul : Bool} : ∀ {n : Nat} {left : List Int} {rows : List (List Int)},(fil inner outer most nul n left rows).Nodup
  | 0,left,rows=>by simp [fil]
  | n + 1,left,rows=>by
    rw [fil]
    split
    · split
      · simp
      · exact fil_nodup
    · rename_i hf
      have hf : full inner outer rows = false:=by simpa using hf
      rcases List.eq_nil_or_concat rows with rfl | ⟨R,r,rfl⟩
      · simp [full] at hf
      rw [List.concat_eq_append]
      have hU : ∀ y T,T ∈ useX left nul y (fun l=>fil inner outer most nul n l (addX (R ++ [r]) y)) → Pre (R ++ [r ++ [y]]) T:=fun y T h=>by
        rw [← addX_app]
        unfold useX at h
        split at h
        · exact fil_pre h
        · split at h
          · cases h
          · exact fil_pre h
      refine nodup_catX (fun y _ _=>?_) (fun y z T _ hyz _ hy hz=>?_)
      · unfold useX
        split
        · exact fil_nodup
        · split
          · simp
          · exact fil_nodup
      · obtain ⟨s,U,e1⟩:=pre_eq (hU y T hy)
        obtain ⟨s',U',e2⟩:=pre_eq (hU z T hz)
        have h1 : (T.getD R.length []).getD r.length 0 = y:=by rw [e1,getD_mid,List.append_assoc];simp [getD_mid]
        have h2 : (T.getD R.length []).getD r.length 0 = z:=by rw [e2,getD_mid,List.append_assoc];simp [getD_mid]
        omega
end Go.Schur
namespace Go.Schur
open Go Go.Ab Go.Proofs
def RowS (M:Nat) (r:List Int) : Prop:=r.Pairwise (· ≤ ·) ∧ ∀ x ∈ r,1 ≤ x ∧ x ≤ (M:Int)
def Abv (r s:List Int) : Prop:=∀ j,j < s.length → j < r.length ∧ r.getD j 0 < s.getD j 0
def TabS (M:Nat) : List (List Int) → Prop
  | []=>True
  | r :: T=>RowS M r ∧ Abv r (T.headD []) ∧ TabS M T
def cutR (M:Nat) (r:List Int) : List Int:=r.filter fun x=>decide (x ≤ (M:Int))
def fillR (c:Int) (a:Nat) (r:List Int) : List Int:=r ++ List.replicate (a - r.length) c
def fillT (c:Int) : List Nat → List (List Int) → List (List Int)
  | a :: l,r :: T=>fillR c a r :: fillT c l T
  | _,_=>[]
theorem row_cut {M : Nat} : ∀ {r : List Int},RowS (M + 1) r → RowS M (cutR M r) ∧ r = fillR ((M:Int) + 1) r.length (cutR M r) ∧ (cutR M r).length ≤ r.length
  | [],_=>⟨⟨by simp [cutR],by simp [cutR]⟩,by simp [fillR,cutR],by simp [cutR]⟩
  | x :: r,⟨h1,h2⟩=>by
    obtain ⟨h3,h4⟩:=List.pairwise_cons.1 h1
    have hr : RowS (M + 1) r:=⟨h4,fun y hy=>h2 y (List.mem_cons_of_mem _ hy)⟩
    have hx:=h2 x (by simp)
    by_cases hxM : x ≤ (M:Int)
    · obtain ⟨⟨k1,k2⟩,k3,k4⟩:=row_cut hr
      have e : cutR M (x :: r) = x :: cutR M r:=by simp [cutR,hxM]
      rw [e]
      refine ⟨⟨List.pairwise_cons.2 ⟨fun y hy=>h3 y (List.mem_filter.1 hy).1,k1⟩,fun y hy=>?_⟩,?_,by simp;omega⟩
      · rcases List.mem_cons.1 hy with rfl | hy
        · omega
        · exact k2 y hy
      · unfold fillR at k3 ⊢
        simp only [List.length_cons,List.cons_append,Nat.add_sub_add_right]
        rw [← k3]
    · have hall : ∀ y ∈ x :: r, y = (M:Int) + 1 := fun y hy => by
        have h5:=h2 y hy
        rcases List.mem_cons.1 hy with rfl | hy
        · omega
        · have:=h3 y hy;omega
      have e : cutR M (x :: r) = []:=by
        unfold cutR
        rw [List.filter_eq_nil_iff]
        intro y hy
        have:=hall y hy
        simp;omega
      rw [e]
      refine ⟨⟨by simp,by simp⟩,?_,by simp⟩
      unfold fillR
      simp only [List.nil_append,List.length_nil,Nat.sub_zero]
      exact List.eq_replicate_iff.2 ⟨rfl,hall⟩
theorem row_fill {M a : Nat} {r : List Int} (h : RowS M r) (ha : r.length ≤ a) : RowS (M + 1) (fillR ((M:Int) + 1) a r) ∧ cutR M (fillR ((M:Int) + 1) a r) = r ∧ (fillR ((M:Int) + 1) a r).length = a:=by
  refine ⟨⟨?_,fun x hx=>?_⟩,?_,by simp [fillR];omega⟩
  · unfold fillR
    rw [List.pairwise_append]
    refine ⟨h.1,by rw [List.pairwise_replicate];exact .inr (Int.le_refl _),fun x hx y hy=>?_⟩
    have:=h.2 x hx
    have:=List.eq_of_mem_replicate hy
    omega
  · unfold fillR at hx
    rcases List.mem_append.1 hx with hx | hx
    · have:=h.2 x hx;omega
    · have:=List.eq_of_mem_replicate hx;omega
  · unfold cutR fillR
    rw [List.filter_append,List.filter_eq_self.2 (fun x hx=>by have:=h.2 x hx;simp;omega),List.filter_eq_nil_iff.2 (fun x hx=>by have:=List.eq_of_mem_replicate hx;simp;omega),List.append_nil]
theorem fillR_get {c : Int} {a j : Nat} {r : List Int} (h : j < r.length) : (fillR c a r).getD j 0 = r.getD j 0:=getD_left h
theorem fillR_get2 {c : Int} {a j : Nat} {r : List Int} (h : r.length ≤ j) (h2 : j < a) : (fillR c a r).getD j 0 = c:=by
  unfold fillR
  rw [List.getD_eq_getElem?_getD,List.getElem?_append_right h,List.getElem?_replicate,if_pos (by omega)];rfl
theorem getD_mem {l : List Int} {j : Nat} (h : j < l.length) : l.getD j 0 ∈ l:=by
  rw [List.getD_eq_getElem?_getD,List.getElem?_eq_getElem h];exact List.getElem_mem h
theorem abv_cut {M : Nat} {r s : List Int} (hr : RowS (M + 1) r) (hs : RowS (M + 1) s) (h : Abv r s) : Abv (cutR M r) (cutR M s) ∧ s.length ≤ (cutR M r).length:=by
  obtain ⟨r1,r2,r3⟩:=row_cut hr
  obtain ⟨s1,s2,s3⟩:=row_cut hs
  have key : ∀ j,j < s.length → j < (cutR M r).length:=fun j hj=>by
    obtain ⟨h1,h2⟩:=h j hj
    have h3:=hs.2 _ (getD_mem hj)
    rcases Nat.lt_or_ge j (cutR M r).length with h4 | h4
    · exact h4
    · have:=fillR_get2 (c:=(M:Int) + 1) (a:=r.length) h4 h1
      rw [← r2] at this
      omega
  refine ⟨fun j hj=>?_,?_⟩
  · have hj' : j < s.length:=by omega
    refine ⟨key j hj',?_⟩
    have:=(h j hj').2
    rw [r2,s2,fillR_get (key j hj'),fillR_get hj] at this
    exact this
  · rcases Nat.eq_zero_or_pos s.length with h0 | h0
    · omega
    · have:=key (s.length - 1) (by omega);omega
theorem abv_fill {M a b : Nat} {r s : List Int} (hr : RowS M r) (hs : RowS M s) (h : Abv r s) (h1 : s.length ≤ b) (h2 : b ≤ r.length) (h3 : r.length ≤ a) : Abv (fillR ((M:Int) + 1) a r) (fillR ((M:Int) + 1) b s):=by
  intro j hj
  rw [(row_fill hs h1).2.2] at hj
  rw [(row_fill hr h3).2.2]
  refine ⟨by omega,?_⟩
  rw [fillR_get (by omega)]
  rcases Nat.lt_or_ge j s.length with h4 | h4
  · rw [fillR_get h4];exact (h j h4).2
  · rw [fillR_get2 h4 hj]
    have:=hr.2 _ (getD_mem (l:=r) (j:=j) (by omega));omega
def upTo (lo hi:Nat) : List Nat:=(List.range (hi + 1 - lo)).map (lo + ·)
theorem mem_upTo {lo hi v : Nat} : v ∈ upTo lo hi ↔ lo ≤ v ∧ v ≤ hi:=by
  unfold upTo
  rw [List.mem_map]
  constructor
  · rintro ⟨x,hx,rfl⟩;have:=List.mem_range.1 hx;omega
  · rintro ⟨h1,h2⟩;exact ⟨v - lo,List.mem_range.2 (by omega),by omega⟩
theorem nodup_upTo {lo hi : Nat} : (upTo lo hi).Nodup:=by
  unfold upTo
  refine List.Pairwise.map _ (fun a b h=>?_) List.nodup_range
  omega
def subs : List Nat → List (List Nat)
  | []=>[[]]
  | a :: l=>(upTo (l.headD 0) a).flatMap fun v=>(subs l).map (v :: ·)
theorem mem_subs {a : Nat} {l ν : List Nat} : ν ∈ subs (a :: l) ↔ ∃ v ν',ν = v :: ν' ∧ (l.headD 0 ≤ v ∧ v ≤ a) ∧ ν' ∈ subs l:=by
  rw [subs,List.mem_flatMap]
  constructor
  · rintro ⟨v,h1,h2⟩
    obtain ⟨ν',h3,rfl⟩:=List.mem_map.1 h2
    exact ⟨v,ν',rfl,mem_upTo.1 h1,h3⟩
  · rintro ⟨v,ν',rfl,h1,h2⟩
    exact ⟨v,mem_upTo.2 h1,List.mem_map.2 ⟨ν',h2,rfl⟩⟩
theorem nodup_subs : ∀ {l : List Nat},(subs l).Nodup
  | []=>by simp [subs]
  | a :: l=>by
    rw [subs]
    refine List.pairwise_flatMap.2 ⟨fun v _=>List.Pairwise.map _ (fun a b h=>by simpa using h) nodup_subs,?_⟩
    refine List.Pairwise.imp ?_ nodup_upTo
    intro v w hvw x hx y hy
    obtain ⟨x',_,rfl⟩:=List.mem_map.1 hx
    obtain ⟨y',_,rfl⟩:=List.mem_map.1 hy
    intro e
    cases e
    exact hvw rfl
theorem subs_len : ∀ {l ν : List Nat},ν ∈ subs l → ν.length = l.length
  | [],ν,h=>by simp [subs] at h;simp [h]
  | a :: l,ν,h=>by
    obtain ⟨v,ν',rfl,_,h2⟩:=mem_subs.1 h
    simp [subs_len h2]
theorem map_len_head {T : List (List Int)} : (T.map List.length).headD 0 = (T.headD []).length:=by cases T <;> rfl
theorem tabS_cut {M : Nat} : ∀ {T : List (List Int)},TabS (M + 1) T → TabS M (T.map (cutR M)) ∧ (T.map (cutR M)).map List.length ∈ subs (T.map List.length) ∧ T = fillT ((M:Int) + 1) (T.map List.length) (T.map (cutR M))
  | [],_=>⟨trivial,by simp [subs],rfl⟩
  | r :: T,⟨h1,h2,h3⟩=>by
    obtain ⟨k1,k2,k3⟩:=tabS_cut h3
    obtain ⟨r1,r2,r3⟩:=row_cut h1
    have hh : RowS (M + 1) (T.headD []):=by
      cases T with
      | nil=>exact ⟨by simp,by simp⟩
      | cons s T=>exact h3.1
    obtain ⟨a1,a2⟩:=abv_cut h1 hh h2
    have he : (T.map (cutR M)).headD [] = cutR M (T.headD []):=by cases T <;> rfl
    refine ⟨⟨r1,by rw [he];exact a1,k1⟩,?_,?_⟩
    · simp only [List.map_cons]
      exact mem_subs.2 ⟨_,_,rfl,⟨by rw [map_len_head];exact a2,r3⟩,k2⟩
    · simp only [List.map_cons,fillT]
      rw [← r2,← k3]
theorem tabS_fill {M : Nat} : ∀ {l : List Nat} {T : List (List Int)},TabS M T → T.map List.length ∈ subs l → TabS (M + 1) (fillT ((M:Int) + 1) l T) ∧ (fillT ((M:Int) + 1) l T).map List.length = l ∧ (fillT ((M:Int) + 1) l T).map (cutR M) = T
  | [],T,h,hm=>by
    simp [subs] at hm
    subst hm
    exact ⟨trivial,rfl,rfl⟩
  | a :: l,[],h,hm=>by
    have:=subs_len hm
    simp at this
  | a :: l,r :: T,⟨h1,h2,h3⟩,hm=>by
    obtain ⟨v,ν',e,⟨g1,g2⟩,g3⟩:=mem_subs.1 hm
    simp only [List.map_cons,List.cons.injEq] at e
    obtain ⟨rfl,rfl⟩:=e
    obtain ⟨k1,k2,k3⟩:=tabS_fill h3 g3
    obtain ⟨r1,r2,r3⟩:=row_fill h1 g2
    refine ⟨⟨r1,?_,k1⟩,by simp only [fillT,List.map_cons,r3,k2],by simp only [fillT,List.map_cons,r2,k3]⟩
    cases l with
    | nil =>
      have : fillT ((M:Int) + 1) [] T = []:=by cases T <;> rfl
      rw [this]
      intro j hj
      simp at hj
    | cons b l =>
      cases T with
      | nil=>simp [fillT];intro j hj;simp at hj
      | cons s T =>
        simp only [fillT,List.headD_cons] at g1 h2 ⊢
        obtain ⟨v',ν'',e,⟨f1,f2⟩,_⟩:=mem_subs.1 g3
        simp only [List.map_cons,List.cons.injEq] at e
        exact abv_fill h1 h3.1 h2 (by omega) g1 g2
theorem tabS_zero : ∀ {T : List (List Int)},TabS 0 T ↔ ∀ r ∈ T,r = []
  | []=>by simp [TabS]
  | r :: T=>by
    simp only [TabS,tabS_zero (T:=T),List.mem_cons,forall_eq_or_imp]
    constructor
    · rintro ⟨h1,h2,h3⟩
      refine ⟨?_,h3⟩
      cases r with
      | nil=>rfl
      | cons x r=>have:=h1.2 x (by simp);omega
    · rintro ⟨rfl,h⟩
      refine ⟨⟨by simp,by simp⟩,?_,h⟩
      cases T with
      | nil=>intro j hj;simp at hj
      | cons s T=>rw [List.headD_cons,h s (by simp)];intro j hj;simp at hj
def tabsR : Nat → List Nat → List (List (List Int))
  | 0,l=>bif l.all (Nat.beq 0) then [l.map fun _=>[]] else []
  | M + 1,l=>(subs l).flatMap fun ν=>(tabsR M ν).map (fillT ((M:Int) + 1) l)
theorem mem_tabsR : ∀ {M : Nat} {l : List Nat} {T : List (List Int)},T ∈ tabsR M l ↔ T.map List.length = l ∧ TabS M T
  | 0,l,T=>by
    rw [tabsR,tabS_zero]
    constructor
    · intro h
      by_cases ha : l.all (Nat.beq 0) = true
      · rw [ha] at h
        simp only [cond_true,List.mem_singleton] at h
        subst h
        refine ⟨?_,by simp⟩
        rw [List.map_map]
        refine Eq.trans (List.map_congr_left fun a ha'=>?_) (List.map_id l)
        have:=List.all_eq_true.1 ha a ha'
        exact Nat.eq_of_beq_eq_true this
      · have : l.all (Nat.beq 0) = false:=by simpa using ha
        rw [this] at h;simp at h
    · rintro ⟨rfl,h⟩
      have : (T.map List.length).all (Nat.beq 0) = true:=by
        rw [List.all_eq_true]
        intro a ha
        obtain ⟨r,hr,rfl⟩:=List.mem_map.1 ha
        rw [h r hr];rfl
      rw [this]
      simp only [cond_true,List.mem_singleton,List.map_map]
      refine (Eq.trans (List.map_congr_left fun r hr=>?_) (List.map_id T)).symm
      simp [h r hr]
  | M + 1,l,T=>by
    rw [tabsR,List.mem_flatMap]
    constructor
    · rintro ⟨ν,h1,h2⟩
      obtain ⟨T',h3,rfl⟩:=List.mem_map.1 h2
      obtain ⟨rfl,h4⟩:=mem_tabsR.1 h3
      obtain ⟨k1,k2,_⟩:=tabS_fill h4 h1
      exact ⟨k2,k1⟩
    · rintro ⟨rfl,h⟩
      obtain ⟨k1,k2,k3⟩:=tabS_cut h
      exact ⟨_,k2,List.mem_map.2 ⟨_,mem_tabsR.2 ⟨rfl,k1⟩,k3.symm⟩⟩
theorem nodup_tabsR : ∀ {M : Nat} {l : List Nat},(tabsR M l).Nodup
  | 0,l=>by
    rw [tabsR]
    cases l.all (Nat.beq 0) <;> simp
  | M + 1,l=>by
    rw [tabsR]
    have hinj : ∀ {ν : List Nat} {T : List (List Int)},ν ∈ subs l → T ∈ tabsR M ν → (fillT ((M:Int) + 1) l T).map (cutR M) = T ∧ T.map List.length = ν:=fun h1 h2=>by
      obtain ⟨rfl,h4⟩:=mem_tabsR.1 h2
      exact ⟨(tabS_fill h4 h1).2.2,rfl⟩
    refine List.pairwise_flatMap.2 ⟨fun ν hν=>?_,?_⟩
    · refine List.pairwise_map.2 ?_
      refine List.Pairwise.imp_of_mem ?_ (nodup_tabsR (M:=M) (l:=ν))
      intro a b ha hb hab e
      apply hab
      rw [← (hinj hν ha).1,← (hinj hν hb).1,e]
    · refine List.Pairwise.imp_of_mem ?_ (nodup_subs (l:=l))
      intro ν μ hν hμ hne x hx y hy e
      obtain ⟨x',hx',rfl⟩:=List.mem_map.1 hx
      obtain ⟨y',hy',rfl⟩:=List.mem_map.1 hy
      apply hne
      rw [← (hinj hν hx').2,← (hinj hμ hy').2,← (hinj hν hx').1,← (hinj hμ hy').1,e]
end Go.Schur
namespace Go.Schur
open Go Go.Ab Go.Proofs
theorem rowS_iff {M : Nat} {r : List Int} : RowS M r ↔ (∀ x ∈ r,1 ≤ x ∧ x ≤ (M:Int)) ∧ ∀ j,0 < j → j < r.length → r.getD (j - 1) 0 ≤ r.getD j 0:=by
  constructor
  · rintro ⟨h1,h2⟩
    refine ⟨h2,fun j h3 h4=>?_⟩
    rw [List.getD_eq_getElem?_getD,List.getD_eq_getElem?_getD,List.getElem?_eq_getElem h4,List.getElem?_eq_getElem (show j - 1 < r.length by omega)]
    exact List.pairwise_iff_getElem.1 h1 _ _ _ _ (by omega)
  · rintro ⟨h1,h2⟩
    have key : ∀ d j,j + d < r.length → r.getD j 0 ≤ r.getD (j + d) 0:=by
      intro d
      induction d with
      | zero=>intro j _;exact Int.le_refl _
      | succ d ih =>
        intro j hj
        have h3:=ih j (by omega)
        have h4:=h2 (j + (d + 1)) (by omega) hj
        rw [show j + (d + 1) - 1 = j + d by omega] at h4
        omega
    refine ⟨List.pairwise_iff_getElem.2 fun i j hi hj hij=>?_,h1⟩
    have:=key (j - i) i (by omega)
    rw [show i + (j - i) = j by omega,List.getD_eq_getElem?_getD,List.getD_eq_getElem?_getD,List.getElem?_eq_getElem hi,List.getElem?_eq_getElem hj] at this
    exact this
theorem tabS_iff {M : Nat} : ∀ {T : List (List Int)},TabS M T ↔ ∀ i,i < T.length → RowS M (T.getD i []) ∧ Abv (T.getD i []) (T.getD (i + 1) [])
  | []=>by simp [TabS]
  | r :: T=>by
    rw [TabS,tabS_iff (T:=T)]
    have hd : T.headD [] = T.getD 0 []:=by cases T <;> rfl
    constructor
    · rintro ⟨h1,h2,h3⟩ i hi
      cases i with
      | zero=>simp only [List.getD_cons_zero,List.getD_cons_succ];exact ⟨h1,hd ▸ h2⟩
      | succ i=>simp only [List.getD_cons_succ];exact h3 i (by simpa using hi)
    · intro h
      have h0:=h 0 (by simp)
      simp only [List.getD_cons_zero,List.getD_cons_succ] at h0
      refine ⟨h0.1,by rw [hd];exact h0.2,fun i hi=>?_⟩
      have:=h (i + 1) (by simpa using hi)
      simpa only [List.getD_cons_succ] using this
def Dec (l : List Nat) : Prop:=∀ i,l.getD (i + 1) 0 ≤ l.getD i 0
def toI (l : List Nat) : List Int:=l.map fun (n:Nat)=>(n:Int)
theorem toI_get {l : List Nat} {i : Nat} : (toI l).getD i 0 = (l.getD i 0:Nat):=by
  unfold toI
  rw [List.getD_eq_getElem?_getD,List.getElem?_map,List.getD_eq_getElem?_getD]
  cases l[i]? <;> rfl
theorem map_len_get {T : List (List Int)} {i : Nat} : (T.map List.length).getD i 0 = (T.getD i []).length:=by
  rw [List.getD_eq_getElem?_getD,List.getElem?_map,List.getD_eq_getElem?_getD]
  cases T[i]? <;> rfl
theorem tab_iff {l : List Nat} {M : Nat} {T : List (List Int)} (hd : Dec l) : Tab [] (toI l) M T ↔ T.map List.length = l ∧ TabS M T:=by
  have hat : ∀ i j : Nat,atF [] T (((i + 1:Nat):Int) - 1) (rowF [] (i + 1:Nat) + j) = (T.getD i []).getD j 0:=fun i j=>by
    unfold atF
    rw [rowF_nil,rowF_nil,if_neg (by omega),show (((i + 1:Nat):Int) - 1).toNat = i by omega,Int.zero_add,Int.sub_zero,Int.toNat_natCast]
  constructor
  · intro h
    have hl : T.map List.length = l:=by
      refine List.ext_getElem? fun i=>?_
      have hlen : T.length = l.length:=by have:=h.len;simpa [toI] using this
      rcases Nat.lt_or_ge i T.length with hi | hi
      · have h1:=h.row i hi
        rw [rowF_nil,rowF_nat,toI_get,Int.zero_add] at h1
        have h1 : (T.getD i []).length = l.getD i 0:=by omega
        rw [List.getElem?_map,List.getElem?_eq_getElem hi,List.getElem?_eq_getElem (by omega)]
        rw [List.getD_eq_getElem?_getD,List.getD_eq_getElem?_getD,List.getElem?_eq_getElem hi,List.getElem?_eq_getElem (by omega)] at h1
        simpa using h1
      · rw [List.getElem?_eq_none (by simpa using hi),List.getElem?_eq_none (by omega)]
    refine ⟨hl,tabS_iff.2 fun i hi=>⟨rowS_iff.2 ⟨fun x hx=>?_,fun j h1 h2=>(h.ord i j hi h2).1 h1⟩,fun j hj=>?_⟩⟩
    · refine h.ent (T.getD i []) ?_ x hx
      rw [List.getD_eq_getElem?_getD,List.getElem?_eq_getElem hi];exact List.getElem_mem hi
    · have hi1 : i + 1 < T.length := by
        rcases Nat.lt_or_ge (i + 1) T.length with h1 | h1
        · exact h1
        · rw [getD_out h1] at hj;simp at hj
      have h3:=(h.ord (i + 1) j hi1 hj).2 (by omega)
      rw [hat] at h3
      refine ⟨?_,h3⟩
      have h4:=hd i
      rw [← hl,map_len_get,map_len_get] at h4
      omega
  · rintro ⟨rfl,h⟩
    have h:=tabS_iff.1 h
    refine ⟨by simp [toI],fun i hi=>?_,fun r hr x hx=>?_,fun i j hi hj=>⟨fun h0=>(rowS_iff.1 (h i hi).1).2 j h0 hj,fun h0=>?_⟩⟩
    · rw [rowF_nil,rowF_nat,toI_get,map_len_get];omega
    · obtain ⟨i,hi,rfl⟩:=List.getElem_of_mem hr
      have:=(h i hi).1.2 x
      rw [List.getD_eq_getElem?_getD,List.getElem?_eq_getElem hi] at this
      exact this hx
    · obtain ⟨i,rfl⟩ : ∃ k,i = k + 1:=⟨i - 1,by omega⟩
      rw [hat]
      exact ((h i (by omega)).2 j hj).2
structure Small8 (l : List Nat) : Prop where
  dec : Dec l
  len : l.length ≤ 8
  le8 : ∀ i,l.getD i 0 ≤ 8
theorem pre0 {l : List Nat} {M : Nat} {nul : Bool} {m : List Int} (h : Small8 l) (hM : M ≤ 8) (hm : nul = false → m.length = M ∧ ∀ x ∈ m,0 ≤ x ∧ x ≤ 8) : preM 81 [] (toI l) m M nul [] where
  il:=by simp
  ol:=by simpa [toI] using h.len
  i0:=fun i=>by rw [rowF_nil];omega
  o8:=fun i=>by rw [rowF_nat,toI_get];have:=h.le8 i;omega
  od:=fun i=>by rw [rowF_nat,rowF_nat,toI_get,toI_get];have:=h.dec i;omega
  ins:=fun i=>by rw [rowF_nil,rowF_nat,toI_get];omega
  len:=by simp
  fl:=fun i hi=>by simp at hi
  la:=fun i hi=>by simp at hi
  ent:=fun r hr=>by simp at hr
  mo:=by omega
  lf:=fun hn=>⟨by have:=(hm hn).1;omega,(hm hn).2⟩
  mu:=by have:=h.len;simp [toI];omega
theorem ord_nil : Ord [] []:=fun i j hi=>by simp at hi
theorem fil_all {l : List Nat} {M : Nat} (h : Small8 l) (hM : M ≤ 8) : (fil [] (toI l) M true 81 [] []).Perm (tabsR M l):=by
  refine (List.perm_ext_iff_of_nodup fil_nodup nodup_tabsR).2 fun T=>?_
  rw [fil_iff (N:=0) (pre0 h hM (fun h=>by cases h)) ord_nil (fun h=>by cases h),tab_iff h.dec,mem_tabsR]
  exact ⟨fun h=>h.1,fun h=>⟨h,.nil _,fun h=>by cases h⟩⟩
theorem subs_sum : ∀ {l ν : List Nat},ν ∈ subs l → ν.sum ≤ l.sum
  | [],ν,h=>by simp [subs] at h;simp [h]
  | a :: l,ν,h=>by
    obtain ⟨v,ν',rfl,h1,h2⟩:=mem_subs.1 h
    have:=subs_sum h2
    simp only [List.sum_cons];omega
theorem tabS_bd {M : Nat} : ∀ {T : List (List Int)},TabS M T → ∀ r ∈ T,∀ x ∈ r,1 ≤ x ∧ x ≤ (M:Int)
  | [],_,r,hr=>by cases hr
  | s :: T,⟨h1,_,h3⟩,r,hr=>by
    rcases List.mem_cons.1 hr with rfl | hr
    · exact h1.2
    · exact tabS_bd h3 r hr
def isZ (l : List Nat) : Bool:=l.all (Nat.beq 0)
end Go.Schur
