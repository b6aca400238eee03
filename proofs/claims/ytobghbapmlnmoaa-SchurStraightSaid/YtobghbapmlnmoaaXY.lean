/- Words of a skew filling: its numbers in order,those that are the same from left to right. -/
import Derived.Test.YtobghbapmlnmoaaXT
import Derived.Test.YtobghbapmlnmoaaXG
set_option linter.unusedVariables false
set_option linter.unusedSimpArgs false
set_option maxRecDepth 100000
namespace Go.Schur
open Go Go.Ab Go.Proofs
abbrev WP:=Nat × Int
def leW (a b : WP) : Bool:=decide (a.2 < b.2 ∨ (a.2 = b.2 ∧ b.1 ≤ a.1))
def rowW (W : List WP) (i:Nat) : List Int:=(W.filter fun a=>a.1 == i).map (·.2)
def pairsR : Nat → List (List Int) → List WP
 | _,[]=>[]
 | k,r :: R=>r.map (fun x=>(k,x)) ++ pairsR (k + 1) R
def wordR (R:List (List Int)) : List WP:=(pairsR 0 R).mergeSort leW
theorem rowW_append (A B : List WP) (i:Nat) : rowW (A ++ B) i = rowW A i ++ rowW B i:=by
 unfold rowW;rw [List.filter_append,List.map_append]
theorem rowW_row (r:List Int) (k i:Nat) : rowW (r.map (fun x=>((k,x) : WP))) i = if k = i then r else []:=by
 unfold rowW
 induction r with
 | nil=>split <;> rfl
 | cons x r ih =>
  by_cases h : k = i
  ·rw [if_pos h] at ih ⊢
   rw [List.map_cons,List.filter_cons_of_pos (by simpa using h),List.map_cons,ih]
  ·rw [if_neg h] at ih ⊢
   rw [List.map_cons,List.filter_cons_of_neg (by simpa using h),ih]
theorem rowW_pairs : ∀ (R:List (List Int)) (k i:Nat),rowW (pairsR k R) i = if k ≤ i then R.getD (i - k) [] else []
 | [],k,i=>by
  rw [pairsR,List.getD_nil];split <;> rfl
 | r :: R,k,i=>by
  rw [pairsR,rowW_append,rowW_row,rowW_pairs R (k + 1) i]
  by_cases h : k = i
  ·subst h
   rw [if_pos rfl,if_neg (by omega),if_pos (Nat.le_refl _),Nat.sub_self,List.append_nil];rfl
  ·rw [if_neg h,List.nil_append]
   by_cases h2 : k + 1 ≤ i
   ·rw [if_pos h2,if_pos (by omega),show i - k = (i - (k + 1)) + 1 by omega];rfl
   ·rw [if_neg h2,if_neg (by omega)]
theorem rowW_perm {A B : List WP} (h : A.Perm B) (i:Nat) : (rowW A i).Perm (rowW B i):=(h.filter _).map _
theorem leW_trans (a b c : WP) : leW a b = true → leW b c = true → leW a c = true:=by
 unfold leW;simp only [decide_eq_true_eq];omega
theorem leW_total (a b : WP) : (leW a b || leW b a) = true:=by
 unfold leW;simp only [Bool.or_eq_true,decide_eq_true_eq];omega
theorem word_sorted (R:List (List Int)) : (wordR R).Pairwise fun a b=>leW a b = true:=List.pairwise_mergeSort (le:=leW) leW_trans leW_total _
theorem word_perm (R:List (List Int)) : (wordR R).Perm (pairsR 0 R):=List.mergeSort_perm _ _
theorem rowW_sorted {W : List WP} (h : W.Pairwise fun a b=>leW a b = true) (i:Nat) : (rowW W i).Pairwise (· ≤ ·):=by
 unfold rowW
 rw [List.pairwise_map]
 refine (h.filter _).imp fun {a b} h=>?_
 unfold leW at h;rw [decide_eq_true_eq] at h;omega
theorem word_row {R : List (List Int)} (h : ∀ r ∈ R,r.Pairwise (· ≤ ·)) (i:Nat) : rowW (wordR R) i = R.getD i []:=by
 have h1:=rowW_perm (word_perm R) i
 rw [rowW_pairs,if_pos (Nat.zero_le _),Nat.sub_zero] at h1
 refine h1.eq_of_pairwise (fun a b _ _ h1 h2=>Int.le_antisymm h1 h2) (rowW_sorted (word_sorted R) i) ?_
 rw [List.getD_eq_getElem?_getD]
 cases hi : R[i]? with
 | none=>exact List.Pairwise.nil
 | some r=>exact h r (List.mem_of_getElem? hi)
end Go.Schur
namespace Go.Schur
def gN (l : List Nat) (i:Nat) : Nat:=l.getD i 0
def rwN (R : List (List Nat)) (i:Nat) : List Nat:=R.getD i []
def atN (inner : List Nat) (R : List (List Nat)) (i j:Nat) : Nat:=bif Nat.ble (gN inner i) j then (rwN R i).getD (j - gN inner i) 0 else 0
def dN (w : List Nat) : Nat → Nat
 | 0=>0
 | 1=>0
 | k + 2=>bif Nat.blt (gN w k) (gN w (k + 1)) then dN w (k + 1) + 1 else dN w (k + 1)
def slN (w inner : List Nat) : Nat → List (List Nat) → Nat → Nat → Option (List (List Nat))
 | 0,_,_,_=>none
 | n + 1,R,i,j =>
  bif Nat.beq (atN inner R i (j + 1)) 0 && Nat.beq (atN inner R (i + 1) j) 0 then some (R.set i ((rwN R i).take (j - gN inner i)))
  else bif !Nat.beq (atN inner R (i + 1) j) 0 && (Nat.beq (atN inner R i (j + 1)) 0 || Nat.ble (atN inner R (i + 1) j) (atN inner R i (j + 1))) then slN w inner n (R.set i ((rwN R i).set (j - gN inner i) (atN inner R (i + 1) j))) (i + 1) j
  else bif Nat.beq (atN inner R (i + 1) j) 0 || Nat.blt (dN w (atN inner R i (j + 1))) (dN w (atN inner R (i + 1) j)) then slN w inner n (R.set i ((rwN R i).set (j - gN inner i) (atN inner R i (j + 1)))) i (j + 1)
  else none
def trZ : List Nat → List Nat
 | []=>[]
 | a :: l=>match trZ l with
  | []=>bif Nat.beq a 0 then [] else [a]
  | b :: m=>a :: b :: m
def trK (n:Nat) (R : List (List Nat)) : Nat → Nat
 | 0=>0
 | m + 1=>bif Nat.blt n (m + 1) && Nat.beq (rwN R m).length 0 then trK n R m else m + 1
abbrev SN:=List Nat × List (List Nat)
def trN (s : SN) : SN:=(trZ s.1,s.2.take (trK (trZ s.1).length s.2 s.2.length))
def sldN (w : List Nat) (s : SN) (row:Nat) : Option SN:=bif Nat.beq (gN s.1 row) 0 then none else
 match slN w (s.1.set row (gN s.1 row - 1)) 40 (s.2.set row (0 :: rwN s.2 row)) row (gN s.1 row - 1) with
 | none=>none
 | some R=>some (trN (s.1.set row (gN s.1 row - 1),R))
def strN (w : List Nat) : Nat → SN → Option (List (List Nat))
 | 0,_=>none
 | n + 1,s=>bif Nat.beq s.1.length 0 then some s.2 else
  match sldN w s (s.1.length - 1) with
  | none=>none
  | some t=>strN w n t
def posN : List Nat → Nat → Nat → List Nat
 | [],_,_=>[]
 | a :: w,i,k=>bif Nat.beq a i then k :: posN w i (k + 1) else posN w i (k + 1)
def rowsN (w : List Nat) : List (List Nat):=(List.range 8).map fun i=>posN w i 1
def sumBN (inner : List Nat) (R : List (List Nat)) : Nat → Nat
 | 0=>0
 | i + 1=>sumBN inner R i + (gN inner i + (rwN R i).length)
def entN (w inner : List Nat) (n:Nat) (R : List (List Nat)) (a k:Nat) : Bool :=
 Nat.ble 1 ((rwN R a).getD k 0) && Nat.ble ((rwN R a).getD k 0) n && (Nat.beq k 0 || Nat.ble ((rwN R a).getD (k - 1) 0) ((rwN R a).getD k 0)) &&
  (Nat.beq a 0 || Nat.beq (atN inner R (a - 1) (gN inner a + k)) 0 || Nat.blt (dN w (atN inner R (a - 1) (gN inner a + k))) (dN w ((rwN R a).getD k 0)))
def rowOkN (w inner : List Nat) (n:Nat) (R : List (List Nat)) (a:Nat) : Bool :=
 Nat.ble (gN inner a + (rwN R a).length) (bif Nat.beq a 0 then 8 else gN inner (a - 1) + (rwN R (a - 1)).length) && Nat.ble (sumBN inner R (a + 1)) 8 && (List.range (rwN R a).length).all (entN w inner n R a)
def okN2 (w : List Nat) (n:Nat) (s : SN) : Bool:=shapeB (toI s.1) && Nat.ble s.1.length s.2.length && Nat.ble s.2.length 20 && (List.range s.2.length).all (rowOkN w s.1 n s.2)
def chkN (m w : List Nat) : Bool :=
 match strN w 40 (trN (m,rowsN w)) with
 | none=>false
 | some U=>okN2 w w.length ([],U) && U.all (fun r=>!Nat.beq r.length 0) && U.flatten.isPerm (List.range' 1 w.length) &&
  (List.range m.length).all fun r=>bif Nat.blt (gN m (r + 1)) (gN m r) then
   (match sldN w (trN (m,rowsN w)) r with
   | none=>false
   | some t=>okN2 w w.length t && decide (trN t = t) && decide (strN w 40 t = some U)) else true
def outW (m w : List Nat) (i:Nat) : Nat:=gN m i + w.count i
def canN (m w : List Nat) (i:Nat) : Bool:=Nat.beq i 0 || Nat.blt (outW m w i) (outW m w (i - 1))
def goN (m : List Nat) : Nat → List Nat → Bool
 | 0,w=>chkN m w
 | n + 1,w=>chkN m w && (List.range 8).all fun i=>bif canN m w i then goN m n (w ++ [i]) else true
end Go.Schur
set_option maxRecDepth 100000
namespace Go.Schur
open Go Go.Ab Go.Proofs
structure Fit (f : Nat → Int) (w : List Nat) (n:Nat) : Prop where
 z : f 0 = 0
 pos : ∀ k,1 ≤ k → 1 ≤ f k
 mono : ∀ x y,1 ≤ x → x ≤ y → f x ≤ f y
 str : ∀ x y,1 ≤ x → dN w x < dN w y → f x < f y
 top : ∀ k,k ≤ n → f k ≤ 8
theorem Fit.eq0 {f : Nat → Int} {w : List Nat} {n : Nat} (h : Fit f w n) {x : Nat} : f x = 0 ↔ x = 0:=by
 constructor
 ·intro h0
  by_cases hx : x = 0
  ·exact hx
  ·have:=h.pos x (by omega);omega
 ·rintro rfl;exact h.z
def mapR (f : Nat → Int) (R : List (List Nat)) : List (List Int):=R.map fun r=>r.map f
theorem toI_gN {l : List Nat} {i : Nat} : rowF (toI l) (i:Int) = (gN l i:Int):=by rw [rowF_nat,toI_get];rfl
theorem mapR_row {f : Nat → Int} {R : List (List Nat)} {i : Nat} : (mapR f R).getD i [] = (rwN R i).map f:=by
 unfold mapR rwN
 rw [List.getD_eq_getElem?_getD,List.getElem?_map,List.getD_eq_getElem?_getD]
 cases R[i]? <;> rfl
theorem map_getZ {f : Nat → Int} (hz : f 0 = 0) {r : List Nat} {k : Nat} : (r.map f).getD k 0 = f (r.getD k 0):=by
 rw [List.getD_eq_getElem?_getD,List.getElem?_map,List.getD_eq_getElem?_getD]
 cases r[k]? with
 | none=>exact hz.symm
 | some x=>rfl
theorem mapR_el {f : Nat → Int} (hz : f 0 = 0) {R : List (List Nat)} {i k : Nat} : el (mapR f R) i k = f ((rwN R i).getD k 0):=by
 unfold el;rw [mapR_row,map_getZ hz]
theorem mapR_set {f : Nat → Int} {R : List (List Nat)} {i : Nat} {r : List Nat} : (mapR f R).set i (r.map f) = mapR f (R.set i r):=by
 unfold mapR;rw [List.map_set]
theorem at_eqN {f : Nat → Int} (hz : f 0 = 0) {inner : List Nat} {R : List (List Nat)} {i j : Nat} : atX (toI inner) (mapR f R) i (j:Int) = f (atN inner R i j):=by
 unfold atX atN
 rw [toI_gN,mapR_row,List.length_map]
 by_cases h : gN inner i ≤ j
 ·have e : ((j:Int) - (gN inner i:Int)).toNat = j - gN inner i:=by omega
  rw [show Nat.ble (gN inner i) j = true from Nat.ble_eq_true_of_le h,cond_true]
  by_cases h2 : j - gN inner i < (rwN R i).length
  ·rw [if_pos (by omega),mapR_el hz,e]
  ·rw [if_neg (by omega),List.getD_eq_getElem?_getD,List.getElem?_eq_none (by omega)];exact hz.symm
 ·rw [if_neg (by omega)]
  have : Nat.ble (gN inner i) j = false:=by
   cases hb : Nat.ble (gN inner i) j with
   | false=>rfl
   | true=>exact absurd (Nat.le_of_ble_eq_true hb) h
  rw [this,cond_false];exact hz.symm
theorem at_eqR {f : Nat → Int} (hz : f 0 = 0) {inner : List Nat} {R : List (List Nat)} {i j : Nat} : atR (toI inner) (mapR f R) i (j:Int) = f (atN inner R i j):=by rw [← atX_eq,at_eqN hz]
theorem slN_eq {f : Nat → Int} {w : List Nat} {n : Nat} (h : Fit f w n) {inner : List Nat} : ∀ (m:Nat) (R : List (List Nat)) (i j:Nat) (R' : List (List Nat)),slN w inner m R i j = some R' → slR (toI inner) m (mapR f R) i (j:Int) = mapR f R'
 | 0,R,i,j,R',hs=>by cases hs
 | m + 1,R,i,j,R',hs=>by
  rw [slN] at hs
  rw [slR]
  have ej : ((j:Int) + 1) = ((j + 1:Nat):Int):=by omega
  have en : ((j:Int) - (gN inner i:Int)).toNat = j - gN inner i:=by omega
  rw [ej,at_eqN h.z,at_eqN h.z,toI_gN,mapR_row,en,← List.map_take,← List.map_set,← List.map_set,mapR_set,mapR_set,mapR_set]
  generalize atN inner R i (j + 1) = r at *
  generalize atN inner R (i + 1) j = b at *
  simp only [h.eq0]
  by_cases h1 : r = 0 ∧ b = 0
  ·rw [if_pos h1]
   obtain ⟨rfl,rfl⟩:=h1
   simp only [Nat.beq_refl,Bool.and_self,cond_true] at hs
   cases hs;rfl
  ·rw [if_neg h1]
   have e1 : (Nat.beq r 0 && Nat.beq b 0) = false:=by
    cases hb : (Nat.beq r 0 && Nat.beq b 0) with
    | false=>rfl
    | true =>
     rw [Bool.and_eq_true] at hb
     exact absurd ⟨Nat.eq_of_beq_eq_true hb.1,Nat.eq_of_beq_eq_true hb.2⟩ h1
   rw [e1,cond_false] at hs
   cases hc : (!Nat.beq b 0 && (Nat.beq r 0 || Nat.ble b r)) with
   | true =>
    rw [hc,cond_true] at hs
    rw [Bool.and_eq_true,Bool.not_eq_true',Bool.or_eq_true] at hc
    have hb0 : b ≠ 0:=fun hq=>by subst hq;cases hc.1
    have hp:=h.pos b (by omega)
    rw [if_pos ⟨by omega,hc.2.imp (fun hq=>Nat.eq_of_beq_eq_true hq) fun hq=>h.mono b r (by omega) (Nat.le_of_ble_eq_true hq)⟩]
    exact slN_eq h m _ _ _ _ hs
   | false =>
    rw [hc,cond_false] at hs
    cases hd : (Nat.beq b 0 || Nat.blt (dN w r) (dN w b)) with
    | false=>rw [hd,cond_false] at hs;cases hs
    | true =>
     rw [hd,cond_true] at hs
     have hn : ¬ (0 < f b ∧ (r = 0 ∨ f b ≤ f r)):=by
      rintro ⟨p1,p2⟩
      have hb0 : b ≠ 0:=fun hq=>by subst hq;rw [h.z] at p1;omega
      have hbf : Nat.beq b 0 = false:=by
       cases hq : Nat.beq b 0 with
       | false=>rfl
       | true=>exact absurd (Nat.eq_of_beq_eq_true hq) hb0
      rw [hbf] at hc hd
      simp only [Bool.not_false,Bool.true_and,Bool.or_eq_false_iff,Bool.false_or] at hc hd
      have hr0 : r ≠ 0:=fun hq=>by subst hq;cases hc.1
      have:=h.str r b (by omega) (by
       rw [Nat.blt_eq] at hd;exact hd)
      rcases p2 with p2 | p2
      ·exact hr0 p2
      ·omega
     rw [if_neg hn]
     exact slN_eq h m _ _ _ _ hs
theorem trZ_eq : ∀ l : List Nat,toI (trZ l) = trimZ (toI l)
 | []=>rfl
 | a :: l=>by
  have ih:=trZ_eq l
  show toI (trZ (a :: l)) = trimZ ((a:Int) :: toI l)
  rw [trZ,trimZ,← ih]
  cases hl : trZ l with
  | nil =>
   simp only
   by_cases h : a = 0
   ·subst h;rw [if_pos ⟨rfl,rfl⟩];rfl
   ·rw [if_neg (fun hh=>h (by omega))]
    have : Nat.beq a 0 = false:=by
     cases hq : Nat.beq a 0 with
     | false=>rfl
     | true=>exact absurd (Nat.eq_of_beq_eq_true hq) h
    rw [this];rfl
  | cons b m =>
   rw [if_neg (fun hh=>by cases hh.1)];rfl
theorem trK_eq {f : Nat → Int} {n : Nat} {R : List (List Nat)} : ∀ m,trimK n (mapR f R) m = trK n R m
 | 0=>rfl
 | m + 1=>by
  rw [trimK,trK,trK_eq m,mapR_row,List.length_map]
  by_cases h : n < m + 1 ∧ (rwN R m).length = 0
  ·rw [if_pos h]
   have e1 : Nat.blt n (m + 1) = true:=by rw [Nat.blt_eq];exact h.1
   have e2 : Nat.beq (rwN R m).length 0 = true:=by rw [h.2];rfl
   rw [e1,e2];rfl
  ·rw [if_neg h]
   have : (Nat.blt n (m + 1) && Nat.beq (rwN R m).length 0) = false:=by
    cases hq : (Nat.blt n (m + 1) && Nat.beq (rwN R m).length 0) with
    | false=>rfl
    | true =>
     rw [Bool.and_eq_true,Nat.blt_eq] at hq
     exact absurd ⟨hq.1,Nat.eq_of_beq_eq_true hq.2⟩ h
   rw [this];rfl
noncomputable def sk (f : Nat → Int) (s : SN) : SkD:=(toI s.1,mapR f s.2,())
theorem trN_eq {f : Nat → Int} {s : SN} : trimF (sk f s) = sk f (trN s):=by
 unfold trimF sk trN
 simp only
 have hl : (mapR f s.2).length = s.2.length:=by unfold mapR;rw [List.length_map]
 have ht : (trimZ (toI s.1)).length = (trZ s.1).length:=by rw [← trZ_eq];unfold toI;rw [List.length_map]
 rw [ht,hl,trK_eq,trZ_eq]
 unfold mapR
 rw [List.map_take]
theorem sldN_eq {f : Nat → Int} {w : List Nat} {n : Nat} (h : Fit f w n) {s t : SN} {row : Nat} (hs : sldN w s row = some t) : sldR (sk f s) (row:Int) = sk f t:=by
 unfold sldN at hs
 cases h0 : Nat.beq (gN s.1 row) 0 with
 | true=>rw [h0] at hs;cases hs
 | false =>
  rw [h0,cond_false] at hs
  have hp : 1 ≤ gN s.1 row:=by
   by_cases hq : gN s.1 row = 0
   ·rw [hq] at h0;cases h0
   ·omega
  cases h1 : slN w (s.1.set row (gN s.1 row - 1)) 40 (s.2.set row (0 :: rwN s.2 row)) row (gN s.1 row - 1) with
  | none=>rw [h1] at hs;cases hs
  | some R =>
   rw [h1] at hs
   obtain rfl:=Option.some.inj hs
   have:=slN_eq h 40 _ _ _ _ h1
   unfold sldR
   have e1 : ((row:Int)).toNat = row:=by omega
   have e2 : (sk f s).1.getD row 0 - 1 = ((gN s.1 row - 1:Nat):Int):=by
    show (toI s.1).getD row 0 - 1 = _
    rw [toI_get]
    have : s.1.getD row 0 = gN s.1 row:=rfl
    omega
   have e3 : (sk f s).1.set row ((gN s.1 row - 1:Nat):Int) = toI (s.1.set row (gN s.1 row - 1)):=by
    show (toI s.1).set row _ = _
    unfold toI;rw [List.map_set]
   have e4 : (sk f s).2.1.set row (0 :: (sk f s).2.1.getD row []) = mapR f (s.2.set row (0 :: rwN s.2 row)):=by
    show (mapR f s.2).set row (0 :: (mapR f s.2).getD row []) = _
    rw [mapR_row,← mapR_set,List.map_cons,h.z]
   rw [e1,e2,e3,e4,this]
   exact trN_eq (s:=(s.1.set row (gN s.1 row - 1),R))
theorem strN_eq {f : Nat → Int} {w : List Nat} {n : Nat} (h : Fit f w n) : ∀ (m:Nat) (s : SN) (U : List (List Nat)),strN w m s = some U → (strG m (sk f s)).2.1 = mapR f U
 | 0,s,U,hs=>by cases hs
 | m + 1,s,U,hs=>by
  rw [strN] at hs
  rw [strG]
  have hl : (sk f s).1.length = s.1.length:=by show (toI s.1).length = _;unfold toI;rw [List.length_map]
  rw [hl]
  by_cases h0 : s.1.length = 0
  ·rw [if_pos h0]
   rw [show Nat.beq s.1.length 0 = true by rw [h0];rfl,cond_true] at hs
   cases hs;rfl
  ·rw [if_neg h0]
   have : Nat.beq s.1.length 0 = false:=by
    cases hq : Nat.beq s.1.length 0 with
    | false=>rfl
    | true=>exact absurd (Nat.eq_of_beq_eq_true hq) h0
   rw [this,cond_false] at hs
   cases h1 : sldN w s (s.1.length - 1) with
   | none=>rw [h1] at hs;cases hs
   | some t =>
    rw [h1] at hs
    have:=sldN_eq h h1
    rw [show ((s.1.length:Nat):Int) - 1 = ((s.1.length - 1:Nat):Int) by omega,this]
    exact strN_eq h m t U hs
theorem sumBN_eq {f : Nat → Int} {inner : List Nat} {R : List (List Nat)} : ∀ i,sumO (toI inner) (mapR f R) i = (sumBN inner R i:Int)
 | 0=>rfl
 | i + 1=>by
  rw [sumO,sumBN,sumBN_eq i]
  unfold outI
  rw [toI_gN,mapR_row,List.length_map]
  omega
theorem okN2_ok {f : Nat → Int} {w : List Nat} {n : Nat} (h : Fit f w n) {s : SN} (hs : okN2 w n s = true) : SkOk (toI s.1) (mapR f s.2):=by
 unfold okN2 at hs
 simp only [Bool.and_eq_true] at hs
 obtain ⟨⟨⟨h1,h2⟩,h3⟩,h4⟩:=hs
 have hl : (mapR f s.2).length = s.2.length:=by unfold mapR;rw [List.length_map]
 have h2:=Nat.le_of_ble_eq_true h2
 have h3:=Nat.le_of_ble_eq_true h3
 refine ⟨h1,by rw [hl];unfold toI;rw [List.length_map];exact h2,by rw [hl];exact h3,fun a ha=>?_⟩
 rw [hl] at ha
 have hr:=List.all_eq_true.1 h4 a (List.mem_range.2 ha)
 unfold rowOkN at hr
 simp only [Bool.and_eq_true] at hr
 obtain ⟨⟨r1,r2⟩,r3⟩:=hr
 have r1:=Nat.le_of_ble_eq_true r1
 have r2:=Nat.le_of_ble_eq_true r2
 have hent : ∀ k,k < (rwN s.2 a).length → entN w s.1 n s.2 a k = true:=fun k hk=>List.all_eq_true.1 r3 k (List.mem_range.2 hk)
 have hlen : ((mapR f s.2).getD a []).length = (rwN s.2 a).length:=by rw [mapR_row,List.length_map]
 have hx : ∀ k,k < (rwN s.2 a).length → (1 ≤ (rwN s.2 a).getD k 0 ∧ (rwN s.2 a).getD k 0 ≤ n) ∧ (k = 0 ∨ (rwN s.2 a).getD (k - 1) 0 ≤ (rwN s.2 a).getD k 0) ∧ (a = 0 ∨ atN s.1 s.2 (a - 1) (gN s.1 a + k) = 0 ∨ dN w (atN s.1 s.2 (a - 1) (gN s.1 a + k)) < dN w ((rwN s.2 a).getD k 0)):=fun k hk=>by
  have:=hent k hk
  unfold entN at this
  simp only [Bool.and_eq_true,Bool.or_eq_true] at this
  obtain ⟨⟨⟨q1,q2⟩,q3⟩,q4⟩:=this
  refine ⟨⟨Nat.le_of_ble_eq_true q1,Nat.le_of_ble_eq_true q2⟩,q3.imp Nat.eq_of_beq_eq_true Nat.le_of_ble_eq_true,?_⟩
  rcases q4 with (q4 | q4) | q4
  ·exact .inl (Nat.eq_of_beq_eq_true q4)
  ·exact .inr (.inl (Nat.eq_of_beq_eq_true q4))
  ·rw [Nat.blt_eq] at q4;exact .inr (.inr q4)
 refine ⟨?_,by rw [sumBN_eq];omega,fun k hk=>?_,fun k hk h0=>?_,fun k hk h0=>?_⟩
 ·unfold outI
  rw [hlen,toI_gN,toI_gN,mapR_row,List.length_map]
  by_cases h0 : a = 0
  ·subst h0
   rw [if_pos rfl]
   simp only [Nat.beq_refl,cond_true] at r1
   omega
  ·rw [if_neg h0]
   have : Nat.beq a 0 = false:=by
    cases hq : Nat.beq a 0 with
    | false=>rfl
    | true=>exact absurd (Nat.eq_of_beq_eq_true hq) h0
   rw [this,cond_false] at r1
   omega
 ·rw [hlen] at hk
  rw [mapR_el h.z]
  have:=hx k hk
  exact ⟨h.pos _ this.1.1,h.top _ this.1.2⟩
 ·rw [hlen] at hk
  rw [mapR_el h.z,mapR_el h.z]
  have h1:=hx k hk
  have h2:=hx (k - 1) (by omega)
  exact h.mono _ _ h2.1.1 (h1.2.1.resolve_left (by omega))
 ·rw [hlen] at hk
  rw [mapR_el h.z,toI_gN,show (gN s.1 a:Int) + (k:Int) = ((gN s.1 a + k:Nat):Int) by omega,at_eqR h.z]
  have h1:=hx k hk
  rcases h1.2.2 with hq | hq | hq
  ·omega
  ·rw [hq,h.z];have:=h.pos _ h1.1.1;omega
  ·by_cases hz : atN s.1 s.2 (a - 1) (gN s.1 a + k) = 0
   ·rw [hz,h.z];have:=h.pos _ h1.1.1;omega
   ·exact h.str _ _ (by omega) hq
end Go.Schur
set_option maxRecDepth 100000
namespace Go.Schur
open Go Go.Ab Go.Proofs
def fW (W : List WP) (k:Nat) : Int:=if k = 0 then 0 else match W[k - 1]? with | some a=>a.2 | none=>9
theorem fW_at {W : List WP} {k : Nat} (h : k < W.length) : fW W (k + 1) = W[k].2:=by
 unfold fW
 rw [if_neg (by omega),Nat.add_sub_cancel,List.getElem?_eq_getElem h]
theorem fW_big {W : List WP} {k : Nat} (h : W.length ≤ k) : fW W (k + 1) = 9:=by
 unfold fW
 rw [if_neg (by omega),Nat.add_sub_cancel,List.getElem?_eq_none h]
theorem dN_mono (w : List Nat) : ∀ y x,x ≤ y → dN w x ≤ dN w y
  | 0, x, h => by obtain rfl : x = 0 := by omega
                  exact Nat.le_refl _
  | 1,x,h=>by
    rcases (by omega : x = 0 ∨ x = 1) with rfl | rfl <;> exact Nat.le_refl _
  | k + 2,x,h=>by
    by_cases hx : x = k + 2
    · subst hx;exact Nat.le_refl _
    · have:=dN_mono w (k + 1) x (by omega)
      rw [dN]
      cases Nat.blt (gN w k) (gN w (k + 1)) <;> simp only [cond_true,cond_false] <;> omega
theorem fit_W {W : List WP} (hW : W.Pairwise fun a b=>leW a b = true) (hE : ∀ a ∈ W,1 ≤ a.2 ∧ a.2 ≤ 8) : Fit (fW W) (W.map (·.1)) W.length:=by
 have hmem : ∀ k (h : k < W.length),1 ≤ W[k].2 ∧ W[k].2 ≤ 8:=fun k h=>hE _ (List.getElem_mem h)
 have hmono : ∀ x y,1 ≤ x → x ≤ y → fW W x ≤ fW W y:=fun x y h1 h2=>by
  obtain ⟨x,rfl⟩ : ∃ k,x = k + 1:=⟨x - 1,by omega⟩
  obtain ⟨y,rfl⟩ : ∃ k,y = k + 1:=⟨y - 1,by omega⟩
  by_cases hy : y < W.length
  ·rw [fW_at hy,fW_at (show x < W.length by omega)]
   by_cases he : x = y
   ·subst he;exact Int.le_refl _
   ·have:=List.pairwise_iff_getElem.1 hW x y (by omega) hy (by omega)
    unfold leW at this
    rw [decide_eq_true_eq] at this
    omega
  ·rw [fW_big (k:=y) (by omega)]
   by_cases hx : x < W.length
   ·rw [fW_at hx];have:=hmem x hx;omega
   ·rw [fW_big (by omega)];exact Int.le_refl _
 refine ⟨rfl,fun k hk=>?_,hmono,?_,fun k hk=>?_⟩
 ·obtain ⟨k,rfl⟩ : ∃ j,k = j + 1:=⟨k - 1,by omega⟩
  by_cases h : k < W.length
  ·rw [fW_at h];exact (hmem k h).1
  ·rw [fW_big (by omega)];omega
 ·intro x y
  induction y using Nat.strongRecOn with
  | _ y ih =>
   intro h1 hd
   match y,ih,hd with
   | 0,_,hd=>exact absurd hd (by rw [show dN (W.map (·.1)) 0 = 0 from rfl];omega)
   | 1,_,hd=>exact absurd hd (by rw [show dN (W.map (·.1)) 1 = 0 from rfl];omega)
   | k + 2,ih,hd =>
    by_cases hk : dN (W.map (·.1)) x < dN (W.map (·.1)) (k + 1)
    ·have:=ih (k + 1) (by omega) h1 hk
     have:=hmono (k + 1) (k + 2) (by omega) (by omega)
     omega
    ·rw [dN] at hd
     have hx : x ≤ k + 1:=by
      by_cases hx : x ≤ k + 1
      ·exact hx
      ·have:=dN_mono (W.map (·.1)) x (k + 2) (by omega)
       rw [dN] at this
       omega
     cases hb : Nat.blt (gN (W.map (·.1)) k) (gN (W.map (·.1)) (k + 1)) with
     | false=>rw [hb,cond_false] at hd;omega
     | true =>
      rw [Nat.blt_eq] at hb
      have hk1 : k + 1 < W.length:=by
       by_cases hq : k + 1 < W.length
       ·exact hq
       ·unfold gN at hb
        rw [List.getD_eq_getElem?_getD (i:=k + 1),List.getElem?_eq_none (by rw [List.length_map];omega)] at hb
        exact absurd hb (Nat.not_lt_zero _)
      have hg : ∀ j (hj : j < W.length),gN (W.map (·.1)) j = W[j].1:=fun j hj=>by
       unfold gN
       rw [List.getD_eq_getElem?_getD,List.getElem?_map,List.getElem?_eq_getElem hj];rfl
      rw [hg k (by omega),hg (k + 1) hk1] at hb
      have:=List.pairwise_iff_getElem.1 hW k (k + 1) (by omega) hk1 (by omega)
      unfold leW at this
      rw [decide_eq_true_eq] at this
      have e1:=fW_at (W:=W) (k:=k) (by omega)
      have e2:=fW_at (W:=W) (k:=k + 1) hk1
      have e2 : fW W (k + 2) = W[k + 1].2:=e2
      have:=hmono x (k + 1) h1 hx
      omega
 ·by_cases h0 : k = 0
  ·subst h0;show (0:Int) ≤ 8;omega
  ·obtain ⟨k,rfl⟩ : ∃ j,k = j + 1:=⟨k - 1,by omega⟩
   rw [fW_at (show k < W.length by omega)];exact (hmem k (by omega)).2
theorem pos_map : ∀ (U V : List WP) (i:Nat),(posN (U.map (·.1)) i (V.length + 1)).map (fW (V ++ U)) = rowW U i
 | [],V,i=>rfl
 | a :: U,V,i=>by
  have ih:=pos_map U (V ++ [a]) i
  rw [List.append_assoc,List.length_append] at ih
  have e : fW (V ++ a :: U) (V.length + 1) = a.2:=by
   have hl : V.length < (V ++ a :: U).length:=by simp
   rw [fW_at hl]
   simp
  rw [List.map_cons,posN]
  unfold rowW at ih ⊢
  by_cases h : a.1 = i
  ·rw [show Nat.beq a.1 i = true by rw [h];exact Nat.beq_refl i,cond_true,List.map_cons,e,List.filter_cons_of_pos (by simpa using h),List.map_cons]
   exact congrArg _ ih
  ·have : Nat.beq a.1 i = false:=by
    cases hq : Nat.beq a.1 i with
    | false=>rfl
    | true=>exact absurd (Nat.eq_of_beq_eq_true hq) h
   rw [this,cond_false,List.filter_cons_of_neg (by simpa using h)]
   exact ih
theorem rowsW_map (W : List WP) (i:Nat) : (mapR (fW W) (rowsN (W.map (·.1)))).getD i [] = if i < 8 then rowW W i else []:=by
 rw [mapR_row]
 unfold rwN rowsN
 rw [List.getD_eq_getElem?_getD,List.getElem?_map]
 by_cases h : i < 8
 ·rw [if_pos h,List.getElem?_range h]
  have:=pos_map W [] i
  exact this
 ·rw [if_neg h,List.getElem?_eq_none (by rw [List.length_range];omega)];rfl
def validN (m : List Nat) : List Nat → List Nat → Prop
 | _,[]=>True
 | w,i :: u=>(i < 8 ∧ canN m w i = true) ∧ validN m (w ++ [i]) u
theorem go_all {m : List Nat} : ∀ (n:Nat) (w u : List Nat),goN m n w = true → validN m w u → u.length ≤ n → chkN m (w ++ u) = true
 | 0,w,u,h,hv,hl=>by
  obtain rfl : u = []:=List.eq_nil_of_length_eq_zero (by omega)
  rw [List.append_nil];exact h
 | n + 1,w,u,h,hv,hl=>by
  rw [goN,Bool.and_eq_true] at h
  cases u with
  | nil=>rw [List.append_nil];exact h.1
  | cons i u =>
   obtain ⟨⟨h8,hc⟩,hv⟩:=hv
   have:=List.all_eq_true.1 h.2 i (List.mem_range.2 h8)
   rw [hc,cond_true] at this
   have:=go_all n (w ++ [i]) u this hv (by simp at hl;omega)
   rwa [List.append_assoc] at this
theorem valid_of {m : List Nat} {W : List WP} (h : ∀ A a B,W = A ++ a :: B → a.1 < 8 ∧ canN m (A.map (·.1)) a.1 = true) : ∀ B A,W = A ++ B → validN m (A.map (·.1)) (B.map (·.1))
 | [],A,_=>trivial
 | a :: B,A,hW=>by
  refine ⟨h A a B hW,?_⟩
  have:=valid_of h B (A ++ [a]) (by rw [List.append_assoc];exact hW)
  rwa [List.map_append] at this
theorem count_rowW (A : List WP) (i:Nat) : (A.map (·.1)).count i = (rowW A i).length:=by
 unfold rowW
 rw [List.length_map,List.count_eq_countP,List.countP_map,List.countP_eq_length_filter]
 rfl
theorem sum_out {l : List Int} {R : List (List Int)} : ∀ n,sumO l R n = (l.take n).sum + (((R.take n).map List.length).sum:Nat)
 | 0=>rfl
 | n + 1=>by
  rw [sumO,sum_out n]
  unfold outI
  rw [rowF_nat,List.take_add_one,List.take_add_one,List.sum_append,List.map_append,List.sum_append,List.getD_eq_getElem?_getD,List.getD_eq_getElem?_getD]
  cases l[n]? <;> cases R[n]? <;> simp <;> omega
theorem pairs_len : ∀ (R:List (List Int)) (k:Nat),(pairsR k R).length = (R.map List.length).sum
 | [],_=>rfl
 | r :: R,k=>by rw [pairsR,List.length_append,List.length_map,pairs_len R (k + 1),List.map_cons,List.sum_cons]
theorem row_pw {l : List Int} {R : List (List Int)} (h : SkOk l R) : ∀ r ∈ R,r.Pairwise (· ≤ ·):=fun r hr=>by
 obtain ⟨i,hi,rfl⟩:=List.getElem_of_mem hr
 have hc:=h.cnd i hi
 have hg : R.getD i [] = R[i]:=by rw [List.getD_eq_getElem?_getD,List.getElem?_eq_getElem hi];rfl
 have hel : ∀ k (hk : k < R[i].length),el R i k = R[i][k]:=fun k hk=>by
  unfold el;rw [hg,List.getD_eq_getElem?_getD,List.getElem?_eq_getElem hk];rfl
 rw [List.pairwise_iff_getElem]
 have step : ∀ d a (h : a + d < R[i].length),R[i][a]'(by omega) ≤ R[i][a + d]:=by
  intro d
  induction d with
  | zero=>intro a h;exact Int.le_refl _
  | succ d ih =>
   intro a h
   have h1:=ih a (by omega)
   have h2:=hc.row (a + d + 1) (by rw [hg];omega) (by omega)
   rw [show a + d + 1 - 1 = a + d by omega,hel _ (by omega),hel _ (by omega)] at h2
   exact Int.le_trans h1 h2
 intro a b ha hb hab
 have:=step (b - a) a (by omega)
 simp only [show a + (b - a) = b by omega] at this
 exact this
theorem word_mem {R : List (List Int)} {a : WP} (h : a ∈ wordR R) : ∃ k,k < (R.getD a.1 []).length ∧ el R a.1 k = a.2:=by
 have h1 : a.2 ∈ rowW (pairsR 0 R) a.1:=by
  unfold rowW
  exact List.mem_map.2 ⟨a,List.mem_filter.2 ⟨(word_perm R).mem_iff.1 h,by simp⟩,rfl⟩
 rw [rowW_pairs,if_pos (Nat.zero_le _),Nat.sub_zero] at h1
 obtain ⟨k,hk,he⟩:=List.getElem_of_mem h1
 refine ⟨k,hk,?_⟩
 unfold el;rw [List.getD_eq_getElem?_getD,List.getElem?_eq_getElem hk];exact he
theorem out_pos {l : List Int} {R : List (List Int)} (h : BedR l R) : ∀ {a : Nat},1 ≤ outI l R a → (a:Int) + 1 ≤ sumO l R (a + 1):=by
  intro a ha
  have hm : ∀ d b,b + d = a → 1 ≤ outI l R b:=by
    intro d
    induction d with
    | zero => intro b hb; obtain rfl : b = a := by omega
              exact ha
    | succ d ih =>
      intro b hb
      have:=ih (b + 1) (by omega)
      have:=h.dec b
      omega
  have : ∀ n,n ≤ a → (n:Int) + 1 ≤ sumO l R (n + 1):=by
    intro n
    induction n with
    | zero=>intro _;have:=hm a 0 (by omega);rw [sumO,sumO];omega
    | succ n ih =>
      intro hn
      have:=ih (by omega)
      have:=hm (a - (n + 1)) (n + 1) (by omega)
      rw [sumO]
      omega
  exact this a (Nat.le_refl _)
theorem sk_row8 {l : List Int} {R : List (List Int)} (h : SkOk l R) {i k : Nat} (hk : k < (R.getD i []).length) : i < 8:=by
 have hi:=row_in (rows:=R) (i:=i) (by omega)
 have h1:=out_pos (bed_ok h) (a:=i) (by unfold outI;have:=(shape_row h.shp i).1;omega)
 have h2:=(h.cnd i hi).sum
 omega
theorem word_valid {m : List Nat} {R : List (List Int)} (h : SkOk (toI m) R) : validN m [] ((wordR R).map (·.1)) ∧ m.sum + (wordR R).length ≤ 8:=by
 have hrow:=word_row (row_pw h)
 refine ⟨valid_of (W:=wordR R) (fun A a B hW=>?_) (wordR R) [] rfl,?_⟩
 ·obtain ⟨i,v⟩:=a
  have hi : rowW A i ++ v :: rowW B i = R.getD i []:=by
   rw [← hrow,hW,rowW_append]
   unfold rowW
   rw [List.filter_cons_of_pos (by simp),List.map_cons]
  have hp : (rowW A i).length < (R.getD i []).length:=by rw [← hi,List.length_append,List.length_cons];omega
  have hv : el R i (rowW A i).length = v:=by
   unfold el
   rw [← hi,List.getD_eq_getElem?_getD,List.getElem?_append_right (Nat.le_refl _),Nat.sub_self];rfl
  refine ⟨sk_row8 h hp,?_⟩
  unfold canN
  by_cases h0 : i = 0
  ·rw [show Nat.beq i 0 = true by rw [h0];rfl];rfl
  ·rw [Bool.or_eq_true]
   refine .inr ?_
   rw [Nat.blt_eq]
   unfold outW
   rw [count_rowW,count_rowW]
   show gN m i + (rowW A i).length < gN m (i - 1) + (rowW A (i - 1)).length
   have hil:=row_in (rows:=R) (i:=i) (by omega)
   have hc:=h.cnd i hil
   have hle:=hc.le
   rw [if_neg h0] at hle
   unfold outI at hle
   have hcol:=hc.col _ hp (by omega)
   rw [hv] at hcol
   unfold atR at hcol
   rw [toI_gN,toI_gN] at hle
   rw [toI_gN,toI_gN] at hcol
   by_cases hq : gN m i + (rowW A i).length < gN m (i - 1)
   ·omega
   ·rw [if_pos (by omega)] at hcol
    have ek : ((gN m i:Int) + ((rowW A i).length:Int) - (gN m (i - 1):Int)).toNat = gN m i + (rowW A i).length - gN m (i - 1):=by omega
    rw [ek] at hcol
    by_cases hlt : gN m i + (rowW A i).length < gN m (i - 1) + (rowW A (i - 1)).length
    ·exact hlt
    ·exfalso
     have hr1 : rowW A (i - 1) ++ rowW B (i - 1) = R.getD (i - 1) []:=by
      rw [← hrow,hW,rowW_append]
      congr 1
      unfold rowW
      rw [List.filter_cons_of_neg (by simp;omega)]
     have hlen : (R.getD (i - 1) []).length = (rowW A (i - 1)).length + (rowW B (i - 1)).length:=by rw [← hr1,List.length_append]
     unfold el at hcol
     rw [← hr1,List.getD_eq_getElem?_getD,List.getElem?_append_right (by omega)] at hcol
     have hlb : gN m i + (rowW A i).length - gN m (i - 1) - (rowW A (i - 1)).length < (rowW B (i - 1)).length:=by omega
     rw [List.getElem?_eq_getElem hlb,Option.getD_some] at hcol
     have hmem:=List.getElem_mem hlb
     generalize (rowW B (i - 1))[gN m i + (rowW A i).length - gN m (i - 1) - (rowW A (i - 1)).length] = y at hcol hmem
     unfold rowW at hmem
     obtain ⟨b,hb,rfl⟩:=List.mem_map.1 hmem
     rw [List.mem_filter] at hb
     have hs:=word_sorted R
     rw [hW,List.pairwise_append] at hs
     have:=(List.pairwise_cons.1 hs.2.1).1 b hb.1
     unfold leW at this
     rw [decide_eq_true_eq] at this
     have hb1 : b.1 = i - 1:=by simpa using hb.2
     omega
 ·rw [(word_perm R).length_eq,pairs_len]
  have hs:=sum_out (l:=toI m) (R:=R) R.length
  have hl:=h.len
  rw [List.take_of_length_le hl,List.take_length,toI_sum] at hs
  by_cases h0 : R.length = 0
  ·rw [h0] at hl
   obtain rfl : R = []:=List.eq_nil_of_length_eq_zero h0
   have:=(shapeB_iff.1 h.shp).2.2
   rw [toI_sum] at this
   simp only [List.map_nil,List.sum_nil]
   omega
  ·have:=(h.cnd (R.length - 1) (by omega)).sum
   rw [show R.length - 1 + 1 = R.length by omega] at this
   omega
end Go.Schur
