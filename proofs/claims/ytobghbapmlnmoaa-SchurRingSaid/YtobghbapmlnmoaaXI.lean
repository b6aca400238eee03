/- Strips between shapes of at most 8 boxes: tables. -/
import Derived.Test.YtobghbapmlnmoaaXG
set_option linter.unusedVariables false
set_option linter.unusedSimpArgs false
namespace Go.Schur
open Go Go.Ab Go.Proofs
def P (n:Nat) : List (List Nat):=parts n n n
def memb : List Nat → List Nat → Bool
  | [],[]=>true
  | [],[_]=>true
  | [],_=>false
  | m :: _,[]=>false
  | m :: μ,a :: p=>Nat.ble m a && (Nat.ble (p.headD 0) m && memb μ p)
def strip (l : List Nat) : List Nat:=l.filter fun x=>!Nat.beq x 0
def less (k:Nat) (p : List Nat) : List (List Nat):=(P (p.sum - k)).filter fun μ=>memb μ p
set_option maxRecDepth 100000 in
theorem subs_less : ∀ p ∈ allP,∀ k ∈ List.range (p.sum + 1),((subs p).filter fun ν=>Nat.beq (ν.sum + k) p.sum).map strip = less k p:=by decide +kernel
end Go.Schur
namespace Go.Schur
open Go Go.Ab Go.Proofs
def sL {A : Type} (l : List A) (f : A → Int) : Int:=(l.map f).sum
theorem sL_nil {A : Type} {f : A → Int} : sL [] f = 0:=rfl
theorem sL_cons {A : Type} {a : A} {l : List A} {f : A → Int} : sL (a :: l) f = f a + sL l f:=by simp [sL]
theorem sL_app {A : Type} {l m : List A} {f : A → Int} : sL (l ++ m) f = sL l f + sL m f:=by simp [sL]
theorem sL_congr {A : Type} {l : List A} {f g : A → Int} (h : ∀ a ∈ l,f a = g a) : sL l f = sL l g:=by
  unfold sL;rw [List.map_congr_left h]
theorem sL_add {A : Type} {f g : A → Int} : ∀ {l : List A},sL l (fun a=>f a + g a) = sL l f + sL l g
  | []=>rfl
  | a :: l=>by simp only [sL_cons,sL_add (l:=l)];omega
theorem sL_mul {A : Type} {c : Int} {f : A → Int} : ∀ {l : List A},sL l (fun a=>c * f a) = c * sL l f
  | []=>by simp [sL]
  | a :: l=>by simp only [sL_cons,sL_mul (l:=l),Int.mul_add]
theorem sL_mulr {A : Type} {c : Int} {f : A → Int} {l : List A} : sL l (fun a=>f a * c) = sL l f * c:=by
  rw [Int.mul_comm,← sL_mul];exact sL_congr fun a _=>Int.mul_comm _ _
theorem sL_zero {A : Type} {l : List A} : sL l (fun _=>(0:Int)) = 0:=by
  induction l with
  | nil=>rfl
  | cons a l ih=>rw [sL_cons,ih];rfl
theorem sL_filter {A : Type} {p : A → Bool} {f : A → Int} : ∀ {l : List A},sL (l.filter p) f = sL l fun a=>cond (p a) (f a) 0
  | []=>rfl
  | a :: l=>by
    rw [List.filter_cons,sL_cons,← sL_filter (l:=l)]
    cases h : p a
    · simp [h]
    · simp [h,sL_cons]
theorem sL_comm {A B : Type} {f : A → B → Int} : ∀ {l : List A} {m : List B},sL l (fun a=>sL m fun b=>f a b) = sL m fun b=>sL l fun a=>f a b
  | [],m=>by simp only [sL_nil];exact sL_zero.symm
  | a :: l,m=>by simp only [sL_cons,sL_comm (l:=l)];rw [← sL_add]
theorem sL_swap {A B : Type} {r : A → B → Bool} {f : A → B → Int} {l : List A} {m : List B} : sL l (fun a=>sL (m.filter (r a)) fun b=>f a b) = sL m fun b=>sL (l.filter fun a=>r a b) fun a=>f a b:=by
  simp only [sL_filter];exact sL_comm
theorem sL_map {A B : Type} {g : A → B} {f : B → Int} {l : List A} : sL (l.map g) f = sL l fun a=>f (g a):=by simp [sL,List.map_map];rfl
theorem sL_flat {A B : Type} {g : A → List B} {f : B → Int} : ∀ {l : List A},sL (l.flatMap g) f = sL l fun a=>sL (g a) f
  | []=>rfl
  | a :: l=>by rw [List.flatMap_cons,sL_app,sL_cons,sL_flat]
theorem sL_perm {A : Type} {l m : List A} {f : A → Int} (h : l.Perm m) : sL l f = sL m f:=by
  unfold sL
  have:=h.map f
  generalize l.map f = x at this
  generalize m.map f = y at this
  induction this with
  | nil=>rfl
  | cons a _ ih=>simp only [List.sum_cons,ih]
  | swap a b l=>simp only [List.sum_cons];omega
  | trans _ _ h1 h2=>exact h1.trans h2
theorem sum_cast {l : List Nat} : ((l.sum:Nat):Int) = sL l fun n=>(n:Int):=by
  induction l with
  | nil=>rfl
  | cons a l ih=>rw [List.sum_cons,sL_cons,← ih];omega
theorem subs_zero : ∀ {l : List Nat},subs (l ++ [0]) = (subs l).map (· ++ [0])
  | []=>by rfl
  | a :: l=>by
    rw [List.cons_append,subs,subs,subs_zero,List.map_flatMap]
    have : (l ++ [0]).headD 0 = l.headD 0:=by cases l <;> rfl
    rw [this]
    refine congrArg List.flatten (List.map_congr_left fun v _=>?_)
    simp [List.map_map]
theorem strip_dec : ∀ {l : List Nat},Dec l → ∃ z,l = strip l ++ List.replicate z 0
  | [],_=>⟨0,rfl⟩
  | a :: l,h=>by
    have hd : Dec l:=fun i=>by have:=h (i + 1);simpa using this
    obtain ⟨z,hz⟩:=strip_dec hd
    by_cases ha : a = 0
    · subst ha
      have hall : ∀ i,l.getD i 0 = 0:=by
        intro i
        induction i with
        | zero=>have:=h 0;simpa using this
        | succ i ih=>have:=hd i;omega
      have hs : strip l = []:=by
        unfold strip
        rw [List.filter_eq_nil_iff]
        intro x hx
        obtain ⟨i,hi,rfl⟩:=List.getElem_of_mem hx
        have:=hall i
        rw [List.getD_eq_getElem?_getD,List.getElem?_eq_getElem hi] at this
        simp at this
        simp [this]
      refine ⟨z + 1,?_⟩
      have : strip (0 :: l) = strip l:=rfl
      rw [this,hs,List.nil_append,List.replicate_succ]
      rw [hs,List.nil_append] at hz
      rw [← hz]
    · refine ⟨z,?_⟩
      have : strip (a :: l) = a :: strip l:=by
        have hb : Nat.beq a 0 = false:=by cases a with | zero=>exact absurd rfl ha | succ a=>rfl
        simp [strip,hb]
      rw [this,List.cons_append,← hz]
theorem subs_dec : ∀ {l ν : List Nat},ν ∈ subs l → Dec ν ∧ ν.headD 0 ≤ l.headD 0
  | [],ν,h=>by simp [subs] at h;subst h;exact ⟨fun i=>by simp,by simp⟩
  | a :: l,ν,h=>by
    obtain ⟨v,ν',rfl,⟨h1,h2⟩,h3⟩:=mem_subs.1 h
    obtain ⟨k1,k2⟩:=subs_dec h3
    refine ⟨fun i=>?_,by simpa using h2⟩
    cases i with
    | zero =>
      have : ν'.getD 0 0 = ν'.headD 0:=by cases ν' <;> rfl
      simp only [List.getD_cons_succ,List.getD_cons_zero,this]
      omega
    | succ i=>simpa using k1 i
theorem allP_iff {p : List Nat} : p ∈ allP ↔ ∃ n,n ≤ 8 ∧ p ∈ P n:=by
  unfold allP P
  rw [List.mem_flatMap]
  constructor
  · rintro ⟨n,h1,h2⟩;exact ⟨n,by have:=List.mem_range.1 h1;omega,h2⟩
  · rintro ⟨n,h1,h2⟩;exact ⟨n,List.mem_range.2 (by omega),h2⟩
theorem P_sum : ∀ n ∈ List.range 9,∀ p ∈ P n,p.sum = n:=by decide +kernel
theorem sum_P {n : Nat} {p : List Nat} (hn : n ≤ 8) (h : p ∈ P n) : p.sum = n:=P_sum n (List.mem_range.2 (by omega)) p h
theorem less_P {k n : Nat} {p μ : List Nat} (hn : n ≤ 8) (h : p ∈ P n) : μ ∈ less k p → μ ∈ P (n - k):=fun hm=>by
  have:=(List.mem_filter.1 hm).1
  rwa [sum_P hn h] at this
end Go.Schur
namespace Go.Schur
open Go Go.Ab Go.Proofs
def cntM (l : List (List Nat)) (ν : List Nat) : Nat:=(l.filter fun μ=>memb ν μ).length
set_option maxRecDepth 100000 in
theorem less_less : ∀ p ∈ allP,∀ a ∈ List.range (p.sum + 1),∀ b ∈ List.range a,a + b ≤ p.sum → ∀ ν ∈ P (p.sum - a - b),cntM (less a p) ν = cntM (less b p) ν:=by decide +kernel
end Go.Schur
namespace Go.Schur
open Go Go.Ab Go.Proofs
theorem cntM_sL {l : List (List Nat)} {ν : List Nat} {c : Int} : sL (l.filter fun μ=>memb ν μ) (fun _=>c) = (cntM l ν:Int) * c:=by
  unfold cntM
  generalize l.filter (fun μ=>memb ν μ) = x
  induction x with
  | nil=>simp [sL]
  | cons a x ih=>rw [sL_cons,ih,List.length_cons];rw [show (((x.length + 1:Nat)):Int) = (x.length:Int) + 1 by omega,Int.add_mul,Int.one_mul,Int.add_comm]
theorem two_less {n a b : Nat} {p : List Nat} (hn : n ≤ 8) (hp : p ∈ P n) (ha : a + b ≤ n) {f : List Nat → Int} :
    sL (less a p) (fun μ=>sL (less b μ) f) = sL (P (n - a - b)) fun ν=>(cntM (less a p) ν:Int) * f ν:=by
  have e : sL (less a p) (fun μ=>sL (less b μ) f) = sL (less a p) fun μ=>sL ((P (n - a - b)).filter fun ν=>memb ν μ) fun ν=>f ν :=
    sL_congr fun μ hμ=>by
      have:=sum_P (by omega) (less_P hn hp hμ)
      unfold less
      rw [this]
  rw [e,sL_swap (r:=fun μ ν=>memb ν μ) (f:=fun _ ν=>f ν)]
  exact sL_congr fun ν _=>cntM_sL
theorem less_comm {n a b : Nat} {p : List Nat} (hn : n ≤ 8) (hp : p ∈ P n) (h : a + b ≤ n) {f : List Nat → Int} : sL (less a p) (fun μ=>sL (less b μ) f) = sL (less b p) fun μ=>sL (less a μ) f:=by
  have hs:=sum_P hn hp
  have hall : p ∈ allP:=allP_iff.2 ⟨n,hn,hp⟩
  rw [two_less hn hp h,two_less hn hp (by omega)]
  rw [show n - b - a = n - a - b by omega]
  refine sL_congr fun ν hν=>?_
  congr 2
  rcases Nat.lt_trichotomy a b with hab | hab | hab
  · have:=less_less p hall b (List.mem_range.2 (by omega)) a (List.mem_range.2 hab) (by omega) ν (by rw [hs,show n - b - a = n - a - b by omega];exact hν)
    exact this.symm
  · rw [hab]
  · exact less_less p hall a (List.mem_range.2 (by omega)) b (List.mem_range.2 hab) (by omega) ν (by rw [hs];exact hν)
end Go.Schur
