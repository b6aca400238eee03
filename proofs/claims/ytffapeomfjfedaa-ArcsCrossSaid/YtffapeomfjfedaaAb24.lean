/- Loops: what a state must look like at the head of a loop, and how a state is read so. -/
import Derived.Test.YtffapeomfjfedaaAb23
set_option linter.unusedVariables false
set_option linter.unusedSimpArgs false
namespace Go.Ab

/-- The shape of a slot at a loop's head: blocks go by their places in the list of blocks. -/
inductive TV where
  | u
  | v (t : Ty)
  | sl (j s i : Nat)
  | slf (j s : Nat)
  | ref (j s i o : Nat)
  | mref (j : Nat)
  | fn (f : FuncId) (caps : TV)
  | nil
  | cons (a l : TV)

/-- slf: the slice of all of a block's elements. dead: what lies there is of no account any more. -/
inductive TB where
  | arr (t : Ty) (opn : Bool)
  | cells (l : List TV)
  | map (k v : Ty)
  | dead

def TV.ts : TV → List Ty
  | .v t => [t]
  | .sl .. => [.int .i64]
  | .fn _ c => c.ts
  | .cons a l => a.ts ++ l.ts
  | _ => []

def TB.ts : TB → List Ty
  | .arr t _ => [.slice t]
  | .cells l => l.flatMap TV.ts
  | .map k v => [.map k v]
  | .dead => []

def tsS (l : List (Nat × TV)) : List Ty := l.flatMap fun p => p.2.ts
def tsB (l : List TB) : List Ty := l.flatMap TB.ts

/-! ### How many holes -/
def dropE : Nat → List AV → List AV
  | 0, l => l
  | _ + 1, [] => []
  | n + 1, _ :: l => dropE n l
def TV.n : TV → Nat
  | .v _ => 1
  | .sl .. => 1
  | .fn _ c => c.n
  | .cons a l => Nat.add a.n l.n
  | _ => 0
def cntC : List TV → Nat
  | [] => 0
  | x :: l => Nat.add x.n (cntC l)
def TB.n : TB → Nat
  | .cells l => cntC l
  | .dead => 0
  | _ => 1
def cntS : List (Nat × TV) → Nat
  | [] => 0
  | x :: l => Nat.add x.2.n (cntS l)

theorem TV.n_eq (x : TV) : x.ts.length = x.n := by
  induction x with
  | fn f c ih => exact ih
  | cons a l iha ihl => simp only [TV.ts, TV.n, List.length_append, iha, ihl]; rfl
  | _ => rfl
theorem cntC_eq : ∀ {l : List TV}, (l.flatMap TV.ts).length = cntC l
  | [] => rfl
  | x :: l => by rw [List.flatMap_cons, List.length_append, TV.n_eq, cntC_eq]; rfl
theorem TB.n_eq (x : TB) : x.ts.length = x.n := by
  cases x with
  | cells l => exact cntC_eq
  | _ => rfl
theorem cntS_eq : ∀ {l : List (Nat × TV)}, (tsS l).length = cntS l
  | [] => rfl
  | x :: l => by
    have := cntS_eq (l := l)
    simp only [tsS] at this ⊢
    rw [List.flatMap_cons, List.length_append, TV.n_eq, this]; rfl
theorem drop_holes : ∀ {h r : List AV} {n : Nat}, h.length = n → dropE n (h ++ r) = r
  | [], r, _, rfl => rfl
  | x :: h, r, _, rfl => drop_holes (h := h) rfl

/-! ### From holes to a state -/
def asIntD : AV → Int
  | .val (.int _) n => n
  | _ => 0

def asListD (t : Ty) (a : AV) : List (Den t) := (asList t a).getD []
def asMapD (k v : Ty) (a : AV) : List (Den k × Den v) := match a with
  | .val t x => (castD t (.map k v) x).getD []
  | _ => []

/-- Names of blocks, lengths: by place. -/
def nmAt : List Nat → Nat → Nat
  | [], _ => 0
  | x :: _, 0 => x
  | _ :: l, j + 1 => nmAt l j
def upFrom : Nat → Nat → List Nat
  | _, 0 => []
  | a, n + 1 => a :: upFrom (Nat.succ a) n

def lensB : List TB → List AV → List Nat
  | [], _ => []
  | b :: bs, env => (match b with
    | .arr t _ => List.length (α := Den t) (asListD t (env.headD .undef))
    | _ => 0) :: lensB bs (dropE b.n env)

def instV (nm lens : List Nat) : TV → List AV → AV
  | .u, _ => .undef
  | .v _, env => env.headD .undef
  | .sl j s i, env => .sl (nmAt nm j) s i (asIntD (env.headD .undef)).toNat none
  | .slf j s, _ => .sl (nmAt nm j) s 0 (nmAt lens j) none
  | .ref j s i o, _ => .ref (nmAt nm j) s i o
  | .mref j, _ => .mref (nmAt nm j)
  | .fn f c, env => .fn f (instV nm lens c env)
  | .nil, _ => .nil
  | .cons a l, env => .cons (instV nm lens a env) (instV nm lens l (dropE a.n env))

def instS (nm lens : List Nat) : List (Nat × TV) → List AV → List AV → List AV
  | [], _, T => T
  | (n, tv) :: r, env, T => instS nm lens r (dropE tv.n env) (T.set n (instV nm lens tv env))

def instC (nm lens : List Nat) : List TV → List AV → List AV
  | [], _ => []
  | tv :: r, env => instV nm lens tv env :: instC nm lens r (dropE tv.n env)

def instB (nm lens : List Nat) (env : List AV) : TB → Hs
  | .arr t opn => .live (.arr t (asListD t (env.headD .undef)) opn)
  | .cells l => .live (.cells (instC nm lens l env))
  | .map k v => .live (.map k v (asMapD k v (env.headD .undef)))
  | .dead => .dead

def instBs (nm lens : List Nat) : List TB → List AV → List Hs
  | [], _ => []
  | b :: bs, env => instB nm lens env b :: instBs nm lens bs (dropE b.n env)

def killH : List Hs → List Hs
  | [] => []
  | .live _ :: H => .dead :: killH H
  | h :: H => h :: killH H

def forget : List Nat → List AV → List AV
  | [], T => T
  | n :: l, T => forget l (T.set n .undef)

def headT (asg : List Nat) (sl : List (Nat × TV)) (nm lens : List Nat) (T : List AV) (env : List AV) : List AV := instS nm lens sl env (forget asg T)
def headS (asg : List Nat) (sl : List (Nat × TV)) (bl : List TB) (S : St) (env : List AV) : St :=
  match upFrom S.H.length bl.length, dropE (cntS sl) env with
  | nm, r => match lensB bl r with
    | lens => ⟨headT asg sl nm lens S.T env, killH S.H ++ instBs nm lens bl r⟩

/-! ### From a state to holes -/
def findV : TV → AV → List (Nat × Nat)
  | .sl j .., .sl b .. => [(j, b)]
  | .slf j .., .sl b .. => [(j, b)]
  | .ref j .., .ref b .. => [(j, b)]
  | .mref j, .mref b => [(j, b)]
  | .fn _ c, .fn _ d => findV c d
  | .cons a l, .cons x y => findV a (peel x).2 ++ findV l y
  | _, _ => []

def findC : List TV → List AV → List (Nat × Nat)
  | tv :: l, v :: vs => findV tv (peel v).2 ++ findC l vs
  | _, _ => []

def findS (T : List AV) : List (Nat × TV) → List (Nat × Nat)
  | [] => []
  | (n, tv) :: r => findV tv (peel (T.getD n .undef)).2 ++ findS T r

def lookN (j : Nat) : List (Nat × Nat) → Option Nat
  | [] => none
  | p :: r => if Nat.beq j p.1 then some p.2 else lookN j r

def findB (H : List Hs) : Nat → List TB → List (Nat × Nat) → List (Nat × Nat)
  | _, [], acc => acc
  | j, .cells l :: bs, acc => match lookN j acc with
    | some b => match hget H b with
      | some (.cells vs) => findB H (j + 1) bs (acc ++ findC l vs)
      | _ => acc
    | none => acc
  | j, _ :: bs, acc => findB H (j + 1) bs acc

/-- Which block stands at each place; none: a slice that is nil. -/
def rhoL (acc : List (Nat × Nat)) : Nat → List TB → List (Option Nat)
  | _, [] => []
  | j, _ :: bs => lookN j acc :: rhoL acc (j + 1) bs

def isAt (ρ : List (Option Nat)) (j b : Nat) : Bool := match ρ[j]? with
  | some (some c) => Nat.beq b c
  | _ => false
def isNo (ρ : List (Option Nat)) (j : Nat) : Bool := match ρ[j]? with
  | some none => true
  | _ => false

/-- The lengths of the blocks' lists, out of the heap. -/
def lensP (H : List Hs) : List (Option Nat) → List TB → List Nat
  | o :: ρ, b :: bs => (match b with
    | .arr _ _ => match o with
      | some b => match hget H b with
        | some (.arr t xs _) => List.length (α := Den t) xs
        | _ => 0
      | none => 0
    | _ => 0) :: lensP H ρ bs
  | _, _ => []

def readV (ρ : List (Option Nat)) (H : List Hs) (lens : List Nat) : TV → AV → Option (List Prop × List AV)
  | .u, x => match x with
    | .nil => none
    | .cons .. => none
    | _ => some ([], [])
  | .v t, x => match t with
    | .slice e => match asList e x with
      | some ys => some ([], [.val (.slice e) ys])
      | none => none
    | t => match asD t x with
      | some y => some ([], [.val t y])
      | none => none
  | .sl j s i, x => match x with
    | .sl b s' i' len c => if isAt ρ j b = true ∧ s' = s ∧ i' = i then match c with
        | none => some ([], [.val (.int .i64) ((len : Nat) : Int)])
        | some c => match hget H b with
          | some (.arr _ xs false) => some ([c = xs.length - i], [.val (.int .i64) ((len : Nat) : Int)])
          | _ => none
      else none
    | _ => none
  | .slf j s, x => match x with
    | .sl b s' i' len c => if isAt ρ j b = true ∧ s' = s ∧ i' = 0 then match c with
        | none => some ([len = nmAt lens j], [])
        | some c => match hget H b with
          | some (.arr _ xs false) => some ([len = nmAt lens j, c = xs.length], [])
          | _ => none
      else none
    | .vsl _ _ c => if isNo ρ j = true ∧ c = 0 then some ([0 = nmAt lens j], []) else none
    | _ => none
  | .ref j s i o, x => match x with
    | .ref b s' i' o' => if isAt ρ j b = true ∧ s' = s ∧ i' = i ∧ o' = o then some ([], []) else none
    | _ => none
  | .mref j, x => match x with
    | .mref b => if isAt ρ j b = true then some ([], []) else none
    | _ => none
  | .fn f c, x => match x with
    | .fn g d => if Nat.beq f g = true then readV ρ H lens c d else none
    | _ => none
  | .nil, x => match x with
    | .nil => some ([], [])
    | _ => none
  | .cons a l, x => match x with
    | .cons y z => match readV ρ H lens a (peel y).2, readV ρ H lens l z with
      | some (p, h), some (q, r) => some ((peel y).1 ++ (p ++ q), h ++ r)
      | _, _ => none
    | _ => none

def readC (ρ : List (Option Nat)) (H : List Hs) (lens : List Nat) : List TV → List AV → Option (List Prop × List AV)
  | [], [] => some ([], [])
  | tv :: l, v :: vs => match readV ρ H lens tv (peel v).2, readC ρ H lens l vs with
    | some (p, h), some (q, r) => some ((peel v).1 ++ (p ++ q), h ++ r)
    | _, _ => none
  | _, _ => none

def readS (ρ : List (Option Nat)) (H : List Hs) (lens : List Nat) (T : List AV) : List (Nat × TV) → Option (List Prop × List AV)
  | [] => some ([], [])
  | (n, tv) :: l => match readV ρ H lens tv (peel (T.getD n .undef)).2, readS ρ H lens T l with
    | some (p, h), some (q, r) => some ((peel (T.getD n .undef)).1 ++ (p ++ q), h ++ r)
    | _, _ => none

def readB (ρ : List (Option Nat)) (H : List Hs) (lens : List Nat) : Option Nat → TB → Option (List Prop × List AV)
  | _, .dead => some ([], [])
  | none, .arr t opn => match opn with
    | true => some ([], [.val (.slice t) ([] : List (Den t))])
    | false => none
  | none, _ => none
  | some b, .arr t opn => match hget H b with
    | some (.arr t' xs o) => match castL t' t xs with
      | some ys => if o = opn ∨ opn = true then some ([], [.val (.slice t) ys]) else none
      | none => none
    | _ => none
  | some b, .cells l => match hget H b with
    | some (.cells vs) => readC ρ H lens l vs
    | _ => none
  | some b, .map k v => match hget H b with
    | some (.map k' v' es) => match castM k' v' k v es with
      | some es => some ([], [.val (.map k v) es])
      | none => none
    | _ => none

def readBs (ρ : List (Option Nat)) (H : List Hs) (lens : List Nat) : List (Option Nat) → List TB → Option (List Prop × List AV)
  | [], [] => some ([], [])
  | b :: bs, tb :: l => match readB ρ H lens b tb, readBs ρ H lens bs l with
    | some (p, h), some (q, r) => some (p ++ q, h ++ r)
    | _, _ => none
  | _, _ => none

def memO (x : Nat) : List (Option Nat) → Bool
  | [] => false
  | some y :: l => Nat.beq x y || memO x l
  | none :: l => memO x l
def nodupO : List (Option Nat) → Bool
  | [] => true
  | some x :: l => !memO x l && nodupO l
  | none :: l => nodupO l

def readH (sl : List (Nat × TV)) (bl : List TB) (S : St) : Option (List Prop × List AV) :=
  match rhoL (findB S.H 0 bl (findS S.T sl)) 0 bl with
  | ρ => match nodupO ρ with
    | true => match lensP S.H ρ bl with
      | lens => match readS ρ S.H lens S.T sl, readBs ρ S.H lens ρ bl with
        | some (p, h), some (q, r) => some (p ++ q, h ++ r)
        | _, _ => none
    | false => none

/-! ### Soundness -/
section
variable {w : World} {Γ Γ' : Cx}

/-- A value keeps its meaning in another context, if it had one in a first context that both know. -/
theorem Rp.shift {w0 : World} {Γ0 : Cx} (hI : ∀ b, Γ.I b → Γ'.I b) (hA : ∀ b, Γ0.A b → Γ'.A b ∧ Γ'.ν b = Γ.ν b ∧ Γ'.κ b = Γ.κ b) : ∀ (a : AV) (us vs : List Value), Rp w0 Γ0 a us → Rp w Γ a vs → Rp w Γ' a vs
  | .undef, us, vs, _, h => by simpa only [Rp] using h
  | .val t x, us, vs, _, h => by
    simp only [Rp] at h ⊢
    obtain ⟨v, e, h⟩ := h
    exact ⟨v, e, h.mono hI (fun _ _ => rfl)⟩
  | .gd b a, us, vs, h0, h => by
    simp only [Rp] at h0 h ⊢
    exact ⟨h.1, fun hb => Rp.shift hI hA a us vs (h0.2 hb) (h.2 hb)⟩
  | .ref b s i o, us, vs, h0, h => by
    simp only [Rp] at h0 h ⊢
    obtain ⟨g1, g2, g3⟩ := hA b h0.1
    exact ⟨g1, by rw [g2]; exact h.2⟩
  | .sl b s i len c, us, vs, h0, h => by
    simp only [Rp] at h0 h ⊢
    obtain ⟨g1, g2, g3⟩ := hA b h0.1
    exact ⟨g1, by rw [g2, g3]; exact h.2⟩
  | .vsl t xs c, us, vs, _, h => by
    simp only [Rp] at h ⊢
    obtain ⟨ad, e1, e2, e3, e4⟩ := h
    refine ⟨ad, e1, e2, e3, fun i x hx => ?_⟩
    obtain ⟨b, off, cs, k1, k2, k3, k4⟩ := e4 i x hx
    exact ⟨b, off, cs, k1, hI b k2, RepC.mono hI (fun _ _ => rfl) t x cs k3, k4⟩
  | .mref b, us, vs, h0, h => by
    simp only [Rp] at h0 h ⊢
    obtain ⟨g1, g2, g3⟩ := hA b h0.1
    exact ⟨g1, by rw [g2]; exact h.2⟩
  | .fn f caps, us, vs, h0, h => by
    simp only [Rp] at h0 h ⊢
    obtain ⟨u0, _, h0⟩ := h0
    obtain ⟨u, e, h⟩ := h
    exact ⟨u, e, Rp.shift hI hA caps _ _ h0 h⟩
  | .tup l, us, vs, h0, h => by
    simp only [Rp] at h0 h ⊢
    obtain ⟨u0, _, h0⟩ := h0
    obtain ⟨u, e, h⟩ := h
    exact ⟨u, e, Rp.shift hI hA l _ _ h0 h⟩
  | .agg l, us, vs, h0, h => by
    simp only [Rp] at h0 h ⊢
    obtain ⟨u0, _, h0, _⟩ := h0
    obtain ⟨u, e, h, ho⟩ := h
    exact ⟨u, e, Rp.shift hI hA l _ _ h0 h, ho⟩
  | .nil, us, vs, _, h => by simpa only [Rp] using h
  | .cons a l, us, vs, h0, h => by
    simp only [Rp] at h0 h ⊢
    obtain ⟨v0, u0, _, h1, h2⟩ := h0
    obtain ⟨v, u, e, h3, h4⟩ := h
    exact ⟨v, u, e, Rp.shift hI hA a _ _ h1 h3, Rp.shift hI hA l _ _ h2 h4⟩

/-- The context at the head: the places get numbers of their own. -/
def Cx.head (Γ : Cx) (len : Nat) (ρ : List (Option Nat)) (A0 : Nat → Prop) : Cx where
  I := Γ.I
  A := fun b => A0 b ∨ (len ≤ b ∧ b < len + ρ.length)
  ν := fun b => if b < len then Γ.ν b else match ρ[b - len]? with
    | some (some c) => Γ.ν c
    | _ => 0
  κ := fun b => if b < len then Γ.κ b else match ρ[b - len]? with
    | some (some c) => Γ.κ c
    | _ => 0

/-- Blocks of a context stand in another one under names of their own. -/
structure Nm (Γ Γ' : Cx) (ρ : List (Option Nat)) (nm : List Nat) : Prop where
  I : ∀ b, Γ.I b → Γ'.I b
  so : ∀ j b, ρ[j]? = some (some b) → Γ'.A (nmAt nm j) ∧ Γ'.ν (nmAt nm j) = Γ.ν b ∧ Γ'.κ (nmAt nm j) = Γ.κ b
  no : ∀ j, ρ[j]? = some none → Γ'.A (nmAt nm j) ∧ Γ'.κ (nmAt nm j) = 0

theorem isAt_spec {ρ : List (Option Nat)} {j b : Nat} (h : isAt ρ j b = true) : ρ[j]? = some (some b) := by
  unfold isAt at h
  split at h
  · rename_i c hc; rw [hc]; simp at h; rw [h]
  · cases h

theorem isNo_spec {ρ : List (Option Nat)} {j : Nat} (h : isNo ρ j = true) : ρ[j]? = some none := by
  unfold isNo at h
  split at h
  · rename_i hc; exact hc
  · cases h

theorem nmAt_upFrom : ∀ {n a j : Nat}, j < n → nmAt (upFrom a n) j = a + j
  | n + 1, a, 0, _ => rfl
  | n + 1, a, j + 1, h => by
    simp only [upFrom, nmAt]
    rw [nmAt_upFrom (by omega)]; omega

theorem get_lt {α : Type} {l : List α} {j : Nat} {x : α} (h : l[j]? = some x) : j < l.length := by
  rcases Nat.lt_or_ge j l.length with h' | h'
  · exact h'
  · rw [List.getElem?_eq_none h'] at h; cases h

theorem Nm.head {len : Nat} {ρ : List (Option Nat)} {A0 : Nat → Prop} : Nm Γ (Γ.head len ρ A0) ρ (upFrom len ρ.length) where
  I := fun _ h => h
  so := fun j b h => by
    have hj := get_lt h
    rw [nmAt_upFrom hj]
    refine ⟨.inr ⟨Nat.le_add_right _ _, by omega⟩, ?_, ?_⟩ <;>
    · simp only [Cx.head]
      rw [if_neg (by omega), Nat.add_sub_cancel_left, h]
  no := fun j h => by
    have hj := get_lt h
    rw [nmAt_upFrom hj]
    refine ⟨.inr ⟨Nat.le_add_right _ _, by omega⟩, ?_⟩
    simp only [Cx.head]
    rw [if_neg (by omega), Nat.add_sub_cancel_left, h]

theorem Rp_one {x : AV} {vs : List Value} (h : Rp w Γ x vs) (h1 : x ≠ .nil) (h2 : ∀ a l, x ≠ .cons a l) : ∃ v, vs = [v] := by
  cases x <;> simp only [Rp] at h
  · exact h
  · obtain ⟨v, e, _⟩ := h; exact ⟨v, e⟩
  · exact h.1
  · exact ⟨_, h.2⟩
  · obtain ⟨_, _, _, e, _⟩ := h; exact ⟨_, e⟩
  · obtain ⟨_, e, _⟩ := h; exact ⟨_, e⟩
  · exact ⟨_, h.2⟩
  · obtain ⟨_, e, _⟩ := h; exact ⟨_, e⟩
  · obtain ⟨_, e, _⟩ := h; exact ⟨_, e⟩
  · obtain ⟨_, e, _⟩ := h; exact ⟨_, e⟩
  · exact absurd rfl h1
  · exact absurd rfl (h2 _ _)

/-- The types of the holes. -/
def EnvOk : List Ty → List AV → Prop
  | [], [] => True
  | t :: ts, x :: xs => (∃ y : Den t, x = .val t y) ∧ EnvOk ts xs
  | _, _ => False

theorem EnvOk.app : ∀ {ts us : List Ty} {xs ys : List AV}, EnvOk ts xs → EnvOk us ys → EnvOk (ts ++ us) (xs ++ ys)
  | [], _, [], _, _, h => h
  | t :: ts, us, x :: xs, ys, h1, h2 => ⟨h1.1, h1.2.app h2⟩
  | [], _, _ :: _, _, h, _ => h.elim
  | _ :: _, _, [], _, h, _ => h.elim

theorem EnvOk.length : ∀ {ts : List Ty} {xs : List AV}, EnvOk ts xs → xs.length = ts.length
  | [], [], _ => rfl
  | t :: ts, x :: xs, h => by simp [h.2.length]
  | [], _ :: _, h => h.elim
  | _ :: _, [], h => h.elim

theorem EnvOk.split : ∀ {ts us : List Ty} {xs : List AV}, EnvOk (ts ++ us) xs → ∃ ys zs, xs = ys ++ zs ∧ EnvOk ts ys ∧ EnvOk us zs
  | [], us, xs, h => ⟨[], xs, rfl, trivial, h⟩
  | t :: ts, us, x :: xs, h => by
    obtain ⟨ys, zs, e, h1, h2⟩ := EnvOk.split (ts := ts) h.2
    exact ⟨x :: ys, zs, by rw [e]; rfl, ⟨h.1, h1⟩, h2⟩
  | _ :: _, _, [], h => h.elim

section
variable {ρ : List (Option Nat)} {H : List Hs} {lens : List Nat}

theorem readV_ok : ∀ {tv : TV} {x : AV} {q : List Prop} {h : List AV}, readV ρ H lens tv x = some (q, h) → EnvOk tv.ts h
  | .u, x, q, h, hr => by
    simp only [readV] at hr
    split at hr
    · cases hr
    · cases hr
    · cases hr; trivial
  | .v t, x, q, h, hr => by
    cases t <;> simp only [readV] at hr <;> split at hr <;> first | (cases hr; exact ⟨⟨_, rfl⟩, trivial⟩) | cases hr
  | .sl j s i, x, q, h, hr => by
    simp only [readV] at hr
    split at hr
    · split at hr
      · split at hr
        · cases hr; exact ⟨⟨_, rfl⟩, trivial⟩
        · split at hr
          · cases hr; exact ⟨⟨_, rfl⟩, trivial⟩
          · cases hr
      · cases hr
    · cases hr
  | .slf j s, x, q, h, hr => by
    simp only [readV] at hr
    split at hr
    · split at hr
      · split at hr
        · cases hr; trivial
        · split at hr
          · cases hr; trivial
          · cases hr
      · cases hr
    · split at hr
      · cases hr; trivial
      · cases hr
    · cases hr
  | .ref j s i o, x, q, h, hr => by
    simp only [readV] at hr
    split at hr
    · split at hr
      · cases hr; trivial
      · cases hr
    · cases hr
  | .mref j, x, q, h, hr => by
    simp only [readV] at hr
    split at hr
    · split at hr
      · cases hr; trivial
      · cases hr
    · cases hr
  | .fn f c, x, q, h, hr => by
    simp only [readV] at hr
    split at hr
    · split at hr
      · exact readV_ok (tv := c) hr
      · cases hr
    · cases hr
  | .nil, x, q, h, hr => by
    simp only [readV] at hr
    split at hr
    · cases hr; trivial
    · cases hr
  | .cons a l, x, q, h, hr => by
    simp only [readV] at hr
    split at hr
    · split at hr
      · rename_i e1 e2
        cases hr
        exact (readV_ok e1).app (readV_ok e2)
      · cases hr
    · cases hr

theorem readC_ok : ∀ {l : List TV} {vs : List AV} {q : List Prop} {h : List AV}, readC ρ H lens l vs = some (q, h) → EnvOk (l.flatMap TV.ts) h
  | [], [], q, h, hr => by simp only [readC, Option.some.injEq, Prod.mk.injEq] at hr; obtain ⟨_, rfl⟩ := hr; trivial
  | tv :: l, v :: vs, q, h, hr => by
    simp only [readC] at hr
    split at hr
    · rename_i e1 e2
      cases hr
      rw [List.flatMap_cons]
      exact (readV_ok e1).app (readC_ok e2)
    · cases hr
  | [], _ :: _, _, _, hr => by simp [readC] at hr
  | _ :: _, [], _, _, hr => by simp [readC] at hr

theorem readS_ok {T : List AV} : ∀ {l : List (Nat × TV)} {q : List Prop} {h : List AV}, readS ρ H lens T l = some (q, h) → EnvOk (tsS l) h
  | [], q, h, hr => by simp only [readS, Option.some.injEq, Prod.mk.injEq] at hr; obtain ⟨_, rfl⟩ := hr; trivial
  | (n, tv) :: l, q, h, hr => by
    simp only [readS] at hr
    split at hr
    · rename_i e1 e2
      cases hr
      rw [tsS, List.flatMap_cons]
      exact (readV_ok e1).app (readS_ok e2)
    · cases hr

theorem readB_ok {b : Option Nat} {tb : TB} {q : List Prop} {h : List AV} (hr : readB ρ H lens b tb = some (q, h)) : EnvOk tb.ts h := by
  cases tb with
  | dead => cases b <;> (simp only [readB] at hr; cases hr; trivial)
  | arr t opn =>
    cases b with
    | none =>
      simp only [readB] at hr
      split at hr
      · cases hr; exact ⟨⟨_, rfl⟩, trivial⟩
      · cases hr
    | some b =>
      simp only [readB] at hr
      split at hr
      · split at hr
        · split at hr
          · cases hr; exact ⟨⟨_, rfl⟩, trivial⟩
          · cases hr
        · cases hr
      · cases hr
  | cells l =>
    cases b with
    | none => simp [readB] at hr
    | some b =>
      simp only [readB] at hr
      split at hr
      · exact readC_ok hr
      · cases hr
  | map k v =>
    cases b with
    | none => simp [readB] at hr
    | some b =>
      simp only [readB] at hr
      split at hr
      · split at hr
        · cases hr; exact ⟨⟨_, rfl⟩, trivial⟩
        · cases hr
      · cases hr

theorem readBs_ok : ∀ {bs : List (Option Nat)} {l : List TB} {q : List Prop} {h : List AV}, readBs ρ H lens bs l = some (q, h) → EnvOk (tsB l) h
  | [], [], q, h, hr => by simp only [readBs, Option.some.injEq, Prod.mk.injEq] at hr; obtain ⟨_, rfl⟩ := hr; trivial
  | b :: bs, tb :: l, q, h, hr => by
    simp only [readBs] at hr
    split at hr
    · rename_i e1 e2
      cases hr
      rw [tsB, List.flatMap_cons]
      exact (readB_ok e1).app (readBs_ok e2)
    · cases hr
  | [], _ :: _, _, _, hr => by simp [readBs] at hr
  | _ :: _, [], _, _, hr => by simp [readBs] at hr
end

theorem readH_ok {sl : List (Nat × TV)} {bl : List TB} {S : St} {q : List Prop} {h : List AV} (hr : readH sl bl S = some (q, h)) : EnvOk (tsS sl ++ tsB bl) h := by
  simp only [readH] at hr
  split at hr
  · split at hr
    · rename_i e1 e2
      cases hr
      exact (readS_ok e1).app (readBs_ok e2)
    · cases hr
  · cases hr

theorem asListD_self {t : Ty} {ys : Den (.slice t)} : asListD t (.val (.slice t) ys) = ys := by
  show (castD (.slice t) (.slice t) ys).getD [] = ys
  rw [castD_self]; rfl

theorem asMapD_self {k v : Ty} {es : Den (.map k v)} : asMapD k v (.val (.map k v) es) = es := by
  show (castD (.map k v) (.map k v) es).getD [] = es
  rw [castD_self]; rfl

/-- Lengths out of the heap are those out of the holes. -/
theorem lens_eq {ρ : List (Option Nat)} {H : List Hs} {lens : List Nat} : ∀ {bs : List (Option Nat)} {bl : List TB} {q : List Prop} {r : List AV} (rest : List AV), readBs ρ H lens bs bl = some (q, r) → lensB bl (r ++ rest) = lensP H bs bl
  | [], [], q, r, rest, hr => by simp only [lensB, lensP]
  | b :: bs, tb :: bl, q, r, rest, hr => by
    simp only [readBs] at hr
    split at hr
    · rename_i p h q' r' e1 e2
      cases hr
      have hn := (readB_ok e1).length.trans tb.n_eq
      simp only [lensB, lensP, List.append_assoc, drop_holes hn, lens_eq rest e2]
      congr 1
      cases tb with
      | arr t opn =>
        cases b with
        | none =>
          simp only [readB] at e1
          split at e1
          · cases e1
            exact congrArg (List.length (α := Den t)) (asListD_self (t := t) (ys := []))
          · cases e1
        | some b =>
          simp only [readB] at e1
          split at e1
          · rename_i t' xs o hg
            split at e1
            · rename_i ys hy
              split at e1
              · cases e1
                obtain ⟨e3, e4⟩ := castL_eq hy
                subst e3
                subst e4
                simp only [hg]
                exact congrArg (List.length (α := Den t')) (asListD_self (t := t') (ys := ys))
              · cases e1
            · cases e1
          · cases e1
      | _ => rfl
    · cases hr
  | [], _ :: _, _, _, _, hr => by simp [readBs] at hr
  | _ :: _, [], _, _, _, hr => by simp [readBs] at hr

end
end Go.Ab
