/- Abstract values and how they stand in memory: typed pure data (Ty, Den, RepC), abstract values (AV), mutable blocks (Blk), states (St), and when a state stands for a world (Emb). -/
import Derived.WalkKit
namespace Go.Ab

inductive Ty where
  | int (k : IntKind)
  | bool
  | unit
  | prod (a b : Ty)
  | slice (e : Ty)
  | ptr (e : Ty)
  | optr (e : Ty)
  | map (k v : Ty)
  | oth
  deriving DecidableEq

def Den : Ty → Type
  | .int _ => Int
  | .bool => Bool
  | .unit => Unit
  | .prod a b => Den a × Den b
  | .slice e => List (Den e)
  | .ptr e => Den e
  | .optr e => Option (Den e)
  | .map k v => List (Den k × Den v)
  | .oth => Unit

def dflt : (t : Ty) → Den t
  | .int _ => (0 : Int)
  | .bool => false
  | .unit => ()
  | .prod a b => (dflt a, dflt b)
  | .slice _ => []
  | .ptr e => dflt e
  | .optr _ => none
  | .map _ _ => []
  | .oth => ()

def sz : Ty → Nat
  | .unit => 0
  | .prod a b => sz a + sz b
  | _ => 1

def isAgg : Ty → Bool
  | .unit => true
  | .prod _ _ => true
  | _ => false

def mkV (t : Ty) (cs : List Value) : Value := if isAgg t then .agg cs.toArray else cs.headD undef

@[reducible] def nth {α : Type} (xs : List α) (i : Nat) : Option α := xs[i]?

def CellsAt (w : World) (b off : Nat) (cs : List Value) : Prop := ∀ (j : Nat) (v : Value), cs[j]? = some v → w.cell? ⟨b, off + j, none⟩ = some v

def RepC (w : World) (I : Nat → Prop) : (t : Ty) → Den t → List Value → Prop
  | .int k, n, cs => cs = [.int k n]
  | .bool, b, cs => cs = [.bool b]
  | .unit, _, cs => cs = []
  | .prod a b, x, cs => ∃ c1 c2, cs = c1 ++ c2 ∧ RepC w I a x.1 c1 ∧ RepC w I b x.2 c2
  | .slice e, xs, cs => ∃ (ad : Option Addr) (cap : Nat), cs = [.slice ad (List.length (α := Den e) xs) cap] ∧ (List.length (α := Den e) xs) ≤ cap ∧ (ad = none → cap = 0) ∧
      ∀ (i : Nat) (x : Den e), nth (α := Den e) xs i = some x → ∃ b off c, ad = some ⟨b, off, none⟩ ∧ I b ∧ RepC w I e x c ∧ CellsAt w b (off + i * sz e) c
  | .ptr e, x, cs => ∃ b off c, cs = [.pointer (some ⟨b, off, none⟩)] ∧ I b ∧ RepC w I e x c ∧ CellsAt w b off c
  | .optr e, o, cs => (o = none ∧ cs = [.pointer none]) ∨ ∃ x, o = some x ∧ ∃ b off c, cs = [.pointer (some ⟨b, off, none⟩)] ∧ I b ∧ RepC w I e x c ∧ CellsAt w b off c
  | .map k v, es, cs => ∃ r ents clock, cs = [.map (some r)] ∧ I r ∧ w.heap[r]? = some (.map ents clock) ∧ ents.size = List.length (α := Den k × Den v) es ∧
      ∀ (i : Nat) (e : Den k × Den v), nth (α := Den k × Den v) es i = some e → ∃ ent ck cv, ents[i]? = some ent ∧ RepC w I k e.1 ck ∧ ent.key = mkV k ck ∧ RepC w I v e.2 cv ∧ ent.val = mkV v cv
  | .oth, _, _ => False

def RepV (w : World) (I : Nat → Prop) (t : Ty) (x : Den t) (v : Value) : Prop := ∃ cs, RepC w I t x cs ∧ v = mkV t cs

theorem RepC.length {w : World} {I : Nat → Prop} : ∀ (t : Ty) (x : Den t) (cs : List Value), RepC w I t x cs → cs.length = sz t
  | .int _, _, _, h => by simp only [RepC] at h; subst h; rfl
  | .bool, _, _, h => by simp only [RepC] at h; subst h; rfl
  | .unit, _, _, h => by simp only [RepC] at h; subst h; rfl
  | .prod a b, x, cs, h => by
    simp only [RepC] at h
    obtain ⟨c1, c2, rfl, h1, h2⟩ := h
    simp [sz, RepC.length a _ _ h1, RepC.length b _ _ h2]
  | .slice e, _, _, h => by simp only [RepC] at h; obtain ⟨ad, cap, rfl, _⟩ := h; rfl
  | .ptr e, _, _, h => by simp only [RepC] at h; obtain ⟨b, off, c, rfl, _⟩ := h; rfl
  | .optr e, _, _, h => by
    simp only [RepC] at h
    rcases h with ⟨_, rfl⟩ | ⟨_, _, _, _, _, rfl, _⟩ <;> rfl
  | .map k v, _, _, h => by simp only [RepC] at h; obtain ⟨r, ents, cl, rfl, _⟩ := h; rfl
  | .oth, _, _, h => by simp only [RepC] at h

theorem RepC.oneCell {w : World} {I : Nat → Prop} : ∀ (t : Ty) (x : Den t) (cs : List Value), RepC w I t x cs → ∀ v ∈ cs, v.oneCell' = true
  | .int _, _, _, h => by simp only [RepC] at h; subst h; simp [Value.oneCell']
  | .bool, _, _, h => by simp only [RepC] at h; subst h; simp [Value.oneCell']
  | .unit, _, _, h => by simp only [RepC] at h; subst h; simp
  | .prod a b, x, cs, h => by
    simp only [RepC] at h
    obtain ⟨c1, c2, rfl, h1, h2⟩ := h
    intro v hv
    rcases List.mem_append.1 hv with hv | hv
    · exact RepC.oneCell a _ _ h1 v hv
    · exact RepC.oneCell b _ _ h2 v hv
  | .slice e, _, _, h => by simp only [RepC] at h; obtain ⟨ad, cap, rfl, _⟩ := h; simp [Value.oneCell']
  | .ptr e, _, _, h => by simp only [RepC] at h; obtain ⟨b, off, c, rfl, _⟩ := h; simp [Value.oneCell']
  | .optr e, _, _, h => by
    simp only [RepC] at h
    rcases h with ⟨_, rfl⟩ | ⟨_, _, _, _, _, rfl, _⟩ <;> simp [Value.oneCell']
  | .map k v, _, _, h => by simp only [RepC] at h; obtain ⟨r, ents, cl, rfl, _⟩ := h; simp [Value.oneCell']
  | .oth, _, _, h => by simp only [RepC] at h

/-- Cells in blocks that hold the same. -/
theorem cell?_congr {w w' : World} {b off : Nat} (h : w'.heap[b]? = w.heap[b]?) : w'.cell? ⟨b, off, none⟩ = w.cell? ⟨b, off, none⟩ := by
  simp only [World.cell?, h]

theorem CellsAt.congr {w w' : World} {b off : Nat} {cs : List Value} (h : w'.heap[b]? = w.heap[b]?) (hc : CellsAt w b off cs) : CellsAt w' b off cs :=
  fun j v hj => (cell?_congr h).trans (hc j v hj)

/-- What pure data says stays true as long as its blocks hold the same. -/
theorem RepC.mono {w w' : World} {I I' : Nat → Prop} (hI : ∀ b, I b → I' b) (hw : ∀ b, I b → w'.heap[b]? = w.heap[b]?) :
    ∀ (t : Ty) (x : Den t) (cs : List Value), RepC w I t x cs → RepC w' I' t x cs
  | .int _, _, _, h => by simpa only [RepC] using h
  | .bool, _, _, h => by simpa only [RepC] using h
  | .unit, _, _, h => by simpa only [RepC] using h
  | .prod a b, x, cs, h => by
    simp only [RepC] at h ⊢
    obtain ⟨c1, c2, e, h1, h2⟩ := h
    exact ⟨c1, c2, e, RepC.mono hI hw a _ _ h1, RepC.mono hI hw b _ _ h2⟩
  | .slice e, xs, cs, h => by
    simp only [RepC] at h ⊢
    obtain ⟨ad, cap, e1, e2, e3, h1⟩ := h
    refine ⟨ad, cap, e1, e2, e3, fun i x hx => ?_⟩
    obtain ⟨b, off, c, g1, g2, g3, g4⟩ := h1 i x hx
    exact ⟨b, off, c, g1, hI b g2, RepC.mono hI hw e _ _ g3, g4.congr (hw b g2)⟩
  | .ptr e, x, cs, h => by
    simp only [RepC] at h ⊢
    obtain ⟨b, off, c, g1, g2, g3, g4⟩ := h
    exact ⟨b, off, c, g1, hI b g2, RepC.mono hI hw e _ _ g3, g4.congr (hw b g2)⟩
  | .optr e, x, cs, h => by
    simp only [RepC] at h ⊢
    rcases h with h | ⟨x, hx, b, off, c, g1, g2, g3, g4⟩
    · exact .inl h
    · exact .inr ⟨x, hx, b, off, c, g1, hI b g2, RepC.mono hI hw e _ _ g3, g4.congr (hw b g2)⟩
  | .map k v, es, cs, h => by
    simp only [RepC] at h ⊢
    obtain ⟨r, ents, cl, e1, e2, e3, e4, h1⟩ := h
    refine ⟨r, ents, cl, e1, hI r e2, (hw r e2).trans e3, e4, fun i e he => ?_⟩
    obtain ⟨ent, ck, cv, g1, g2, g3, g4, g5⟩ := h1 i e he
    exact ⟨ent, ck, cv, g1, RepC.mono hI hw k _ _ g2, g3, RepC.mono hI hw v _ _ g4, g5⟩
  | .oth, _, _, h => by simp only [RepC] at h

theorem RepV.mono {w w' : World} {I I' : Nat → Prop} (hI : ∀ b, I b → I' b) (hw : ∀ b, I b → w'.heap[b]? = w.heap[b]?) {t : Ty} {x : Den t} {v : Value}
    (h : RepV w I t x v) : RepV w' I' t x v := by
  obtain ⟨cs, h1, h2⟩ := h
  exact ⟨cs, RepC.mono hI hw t _ _ h1, h2⟩

/-! ### Abstract values -/

inductive AV where
  | undef
  | val (t : Ty) (x : Den t)
  | gd (b : Bool) (v : AV)
  | ref (b s i o : Nat)
  | sl (b s i len : Nat) (c : Option Nat)
  | vsl (t : Ty) (xs : List (Den t)) (c : Nat)
  | mref (b : Nat)
  | fn (f : FuncId) (caps : AV)
  | tup (l : AV)
  | agg (l : AV)
  | nil
  | cons (a l : AV)

structure Cx where
  I : Nat → Prop
  A : Nat → Prop
  ν : Nat → Nat
  κ : Nat → Nat

def Rp (w : World) (Γ : Cx) : AV → List Value → Prop
  | .undef, vs => ∃ v, vs = [v]
  | .val t x, vs => ∃ v, vs = [v] ∧ RepV w Γ.I t x v
  | .gd b a, vs => (∃ v, vs = [v]) ∧ (b = true → Rp w Γ a vs)
  | .ref b s i o, vs => Γ.A b ∧ vs = [.pointer (some ⟨Γ.ν b, i * s + o, none⟩)]
  | .sl b s i len c, vs => Γ.A b ∧ ∃ ad cap, vs = [.slice ad len cap] ∧ cap = c.getD (Γ.κ b - i) ∧ (cap ≠ 0 → ad = some ⟨Γ.ν b, i * s, none⟩) ∧ len ≤ cap
  | .vsl t xs c, vs => ∃ ad, vs = [.slice ad xs.length c] ∧ xs.length ≤ c ∧ (ad = none → c = 0) ∧
      ∀ (i : Nat) (x : Den t), xs[i]? = some x → ∃ b off cs, ad = some ⟨b, off, none⟩ ∧ Γ.I b ∧ RepC w Γ.I t x cs ∧ CellsAt w b (off + i * sz t) cs
  | .mref b, vs => Γ.A b ∧ vs = [.map (some (Γ.ν b))]
  | .fn f caps, vs => ∃ us, vs = [.func (.func f) #[] us.toArray] ∧ Rp w Γ caps us
  | .tup l, vs => ∃ us, vs = [.tuple us.toArray] ∧ Rp w Γ l us
  | .agg l, vs => ∃ us : List Value, vs = [.agg us.toArray] ∧ Rp w Γ l us ∧ ∀ u ∈ us, u.oneCell' = true
  | .nil, vs => vs = []
  | .cons a l, vs => ∃ v us, vs = v :: us ∧ Rp w Γ a [v] ∧ Rp w Γ l us

def Ra (w : World) (Γ : Cx) (a : AV) (v : Value) : Prop := Rp w Γ a [v]

inductive Blk where
  | arr (t : Ty) (xs : List (Den t)) (opn : Bool)
  | cells (vs : List AV)
  | map (k v : Ty) (es : List (Den k × Den v))

inductive Hs where
  | free
  | dead
  | live (B : Blk)

def RepB (w : World) (Γ : Cx) (b : Nat) : Blk → Prop
  | .arr t xs opn => xs.length ≤ Γ.κ b ∧ (opn = false → xs.length = Γ.κ b) ∧ (Γ.κ b ≠ 0 → ∃ c el, w.heap[Γ.ν b]? = some (.cells c el (0, 0)) ∧ c.size = Γ.κ b * sz t ∧
      ∀ (i : Nat) (x : Den t), xs[i]? = some x → ∃ cs, RepC w Γ.I t x cs ∧ ∀ (j : Nat) (v : Value), cs[j]? = some v → c[i * sz t + j]? = some v)
  | .cells vs => Γ.κ b ≠ 0 ∧ ∃ c el, w.heap[Γ.ν b]? = some (.cells c el (0, 0)) ∧ c.size = vs.length ∧ ∀ (i : Nat) (a : AV), vs[i]? = some a → ∃ v, c[i]? = some v ∧ v.oneCell' = true ∧ Ra w Γ a v
  | .map k v es => Γ.κ b ≠ 0 ∧ ∃ ents clock, w.heap[Γ.ν b]? = some (.map ents clock) ∧ ents.size = es.length ∧
      ∀ (i : Nat) (e : Den k × Den v), es[i]? = some e → ∃ ent ck cv, ents[i]? = some ent ∧ RepC w Γ.I k e.1 ck ∧ ent.key = mkV k ck ∧ RepC w Γ.I v e.2 cv ∧ ent.val = mkV v cv

def Live (H : List Hs) (b : Nat) : Prop := ∃ B, H[b]? = some (.live B)
/-- A block of no capacity need not be anywhere. -/
def Wr (Γ : Cx) (H : List Hs) (n : Nat) : Prop := ∃ b, Live H b ∧ Γ.κ b ≠ 0 ∧ Γ.ν b = n

structure EmbH (Γ : Cx) (H : List Hs) (w : World) : Prop where
  blk : ∀ b B, H[b]? = some (.live B) → RepB w Γ b B
  inj : ∀ b b', Live H b → Live H b' → Γ.κ b ≠ 0 → Γ.κ b' ≠ 0 → Γ.ν b = Γ.ν b' → b = b'
  imm : ∀ b, Live H b → Γ.κ b ≠ 0 → ¬ Γ.I (Γ.ν b)
  old : ∀ n, Γ.I n → n < w.heap.size
  al : ∀ b, Γ.A b ↔ ∃ h, H[b]? = some h ∧ h ≠ .free

theorem EmbH.alive {Γ : Cx} {H : List Hs} {w : World} (h : EmbH Γ H w) {b : Nat} (hb : Live H b) : Γ.A b := by
  obtain ⟨B, hB⟩ := hb
  exact (h.al b).2 ⟨_, hB, by simp⟩

theorem RepB.lt {w : World} {Γ : Cx} {b : Nat} {B : Blk} (h : RepB w Γ b B) (hk : Γ.κ b ≠ 0) : Γ.ν b < w.heap.size := by
  have : ∃ o, w.heap[Γ.ν b]? = some o := by
    cases B <;> simp only [RepB] at h
    · obtain ⟨_, _, h⟩ := h; obtain ⟨c, el, h, _⟩ := h hk; exact ⟨_, h⟩
    · obtain ⟨_, c, el, h, _⟩ := h; exact ⟨_, h⟩
    · obtain ⟨_, c, el, h, _⟩ := h; exact ⟨_, h⟩
  obtain ⟨o, ho⟩ := this
  rcases Nat.lt_or_ge (Γ.ν b) w.heap.size with h | h
  · exact h
  · rw [Array.getElem?_eq_none h] at ho; cases ho

theorem EmbH.lt {Γ : Cx} {H : List Hs} {w : World} (h : EmbH Γ H w) {b : Nat} (hb : Live H b) (hk : Γ.κ b ≠ 0) : Γ.ν b < w.heap.size := by
  obtain ⟨B, hB⟩ := hb
  exact (h.blk b B hB).lt hk

/-- How the world and the context may move on. -/
structure Ext (Γ : Cx) (H : List Hs) (w : World) (Γ' : Cx) (H' : List Hs) (w' : World) : Prop where
  fr : ∀ n, n < w.heap.size → ¬ Wr Γ H n → w'.heap[n]? = w.heap[n]?
  size : w.heap.size ≤ w'.heap.size
  os : w'.os = w.os
  out : w'.output = w.output
  wr : ∀ n, Wr Γ' H' n → Wr Γ H n ∨ w.heap.size ≤ n
  im : ∀ n, Γ'.I n → Γ.I n ∨ Wr Γ H n ∨ w.heap.size ≤ n
  mi : ∀ n, Γ.I n → Γ'.I n
  al : ∀ b, Γ.A b → Γ'.A b ∧ Γ'.ν b = Γ.ν b ∧ Γ'.κ b = Γ.κ b

theorem Ext.refl (Γ : Cx) (H : List Hs) (w : World) : Ext Γ H w Γ H w where
  fr := fun _ _ _ => rfl
  size := Nat.le_refl _
  os := rfl
  out := rfl
  wr := fun _ h => .inl h
  im := fun _ h => .inl h
  mi := fun _ h => h
  al := fun _ h => ⟨h, rfl, rfl⟩

theorem Ext.trans {Γ Γ' Γ'' : Cx} {H H' H'' : List Hs} {w w' w'' : World} (h : Ext Γ H w Γ' H' w') (h' : Ext Γ' H' w' Γ'' H'' w'') : Ext Γ H w Γ'' H'' w'' where
  fr := fun n hn hw => by
    have h2 : ¬ Wr Γ' H' n := fun hc => by
      rcases h.wr n hc with h1 | h1
      · exact hw h1
      · omega
    rw [h'.fr n (Nat.lt_of_lt_of_le hn h.size) h2, h.fr n hn hw]
  size := Nat.le_trans h.size h'.size
  os := h'.os.trans h.os
  out := h'.out.trans h.out
  wr := fun n hn => by
    rcases h'.wr n hn with h1 | h1
    · exact h.wr n h1
    · exact .inr (Nat.le_trans h.size h1)
  im := fun n hn => by
    rcases h'.im n hn with h1 | h1 | h1
    · exact h.im n h1
    · rcases h.wr n h1 with h2 | h2
      · exact .inr (.inl h2)
      · exact .inr (.inr h2)
    · exact .inr (.inr (Nat.le_trans h.size h1))
  mi := fun n hn => h'.mi n (h.mi n hn)
  al := fun b hb => by
    obtain ⟨h1, h2, h3⟩ := h.al b hb
    obtain ⟨g1, g2, g3⟩ := h'.al b h1
    exact ⟨g1, g2.trans h2, g3.trans h3⟩

theorem EmbH.keepI {Γ Γ' : Cx} {H H' : List Hs} {w w' : World} (e : EmbH Γ H w) (h : Ext Γ H w Γ' H' w') : ∀ b, Γ.I b → w'.heap[b]? = w.heap[b]? :=
  fun b hb => h.fr b (e.old b hb) fun ⟨_, hc, hk, hn⟩ => e.imm _ hc hk (hn ▸ hb)

/-- Abstract values keep their meaning when world and context move on. -/
theorem Rp.mono {w w' : World} {Γ Γ' : Cx} (hI : ∀ b, Γ.I b → Γ'.I b) (hw : ∀ b, Γ.I b → w'.heap[b]? = w.heap[b]?)
    (hA : ∀ b, Γ.A b → Γ'.A b ∧ Γ'.ν b = Γ.ν b ∧ Γ'.κ b = Γ.κ b) : ∀ (a : AV) (vs : List Value), Rp w Γ a vs → Rp w' Γ' a vs
  | .undef, vs, h => by simpa only [Rp] using h
  | .val t x, vs, h => by
    simp only [Rp] at h ⊢
    obtain ⟨v, e, h⟩ := h
    exact ⟨v, e, h.mono hI hw⟩
  | .gd b a, vs, h => by
    simp only [Rp] at h ⊢
    exact ⟨h.1, fun hb => Rp.mono hI hw hA a vs (h.2 hb)⟩
  | .ref b s i o, vs, h => by
    simp only [Rp] at h ⊢
    obtain ⟨h1, h2⟩ := h
    obtain ⟨g1, g2, g3⟩ := hA b h1
    exact ⟨g1, by rw [g2]; exact h2⟩
  | .sl b s i len c, vs, h => by
    simp only [Rp] at h ⊢
    obtain ⟨h1, ad, cap, h2, h3, h4⟩ := h
    obtain ⟨g1, g2, g3⟩ := hA b h1
    exact ⟨g1, ad, cap, h2, by rw [g3]; exact h3, by rw [g2]; exact h4⟩
  | .vsl t xs c, vs, h => by
    simp only [Rp] at h ⊢
    obtain ⟨ad, e1, e2, e3, h1⟩ := h
    refine ⟨ad, e1, e2, e3, fun i x hx => ?_⟩
    obtain ⟨b, off, c, g1, g2, g3, g4⟩ := h1 i x hx
    exact ⟨b, off, c, g1, hI b g2, RepC.mono hI hw t _ _ g3, g4.congr (hw b g2)⟩
  | .mref b, vs, h => by
    simp only [Rp] at h ⊢
    obtain ⟨h1, h2⟩ := h
    obtain ⟨g1, g2, g3⟩ := hA b h1
    exact ⟨g1, by rw [g2]; exact h2⟩
  | .fn f caps, vs, h => by
    simp only [Rp] at h ⊢
    obtain ⟨us, e, h⟩ := h
    exact ⟨us, e, Rp.mono hI hw hA caps us h⟩
  | .tup l, vs, h => by
    simp only [Rp] at h ⊢
    obtain ⟨us, e, h⟩ := h
    exact ⟨us, e, Rp.mono hI hw hA l us h⟩
  | .agg l, vs, h => by
    simp only [Rp] at h ⊢
    obtain ⟨us, e, h, ho⟩ := h
    exact ⟨us, e, Rp.mono hI hw hA l us h, ho⟩
  | .nil, vs, h => by simpa only [Rp] using h
  | .cons a l, vs, h => by
    simp only [Rp] at h ⊢
    obtain ⟨v, us, e, h1, h2⟩ := h
    exact ⟨v, us, e, Rp.mono hI hw hA a _ h1, Rp.mono hI hw hA l _ h2⟩

theorem Ra.ext {Γ Γ' : Cx} {H H' : List Hs} {w w' : World} {a : AV} {v : Value} (e : EmbH Γ H w) (h : Ext Γ H w Γ' H' w') (ha : Ra w Γ a v) : Ra w' Γ' a v :=
  Rp.mono h.mi (e.keepI h) h.al a _ ha

/-- A block that the world still holds keeps its meaning. -/
theorem RepB.mono {w w' : World} {Γ Γ' : Cx} {b : Nat} {B : Blk} (hI : ∀ b, Γ.I b → Γ'.I b) (hw : ∀ b, Γ.I b → w'.heap[b]? = w.heap[b]?)
    (hA : ∀ b, Γ.A b → Γ'.A b ∧ Γ'.ν b = Γ.ν b ∧ Γ'.κ b = Γ.κ b) (hb : Γ.A b) (hs : Γ.κ b ≠ 0 → w'.heap[Γ.ν b]? = w.heap[Γ.ν b]?) (h : RepB w Γ b B) : RepB w' Γ' b B := by
  obtain ⟨_, g2, g3⟩ := hA b hb
  cases B with
  | arr t xs opn =>
    simp only [RepB] at h ⊢
    obtain ⟨h3, h4, h⟩ := h
    refine ⟨by rw [g3]; exact h3, by rw [g3]; exact h4, fun hk => ?_⟩
    rw [g3] at hk
    obtain ⟨c, el, h1, h2, h5⟩ := h hk
    refine ⟨c, el, by rw [g2, hs hk]; exact h1, by rw [g3]; exact h2, fun i x hx => ?_⟩
    obtain ⟨cs, k1, k2⟩ := h5 i x hx
    exact ⟨cs, RepC.mono hI hw t _ _ k1, k2⟩
  | cells vs =>
    simp only [RepB] at h ⊢
    obtain ⟨hk, c, el, h1, h2, h3⟩ := h
    refine ⟨by rw [g3]; exact hk, c, el, by rw [g2, hs hk]; exact h1, h2, fun i a ha => ?_⟩
    obtain ⟨v, k1, k2, k3⟩ := h3 i a ha
    exact ⟨v, k1, k2, Rp.mono hI hw hA a _ k3⟩
  | map k v es =>
    simp only [RepB] at h ⊢
    obtain ⟨hk, ents, cl, h1, h2, h3⟩ := h
    refine ⟨by rw [g3]; exact hk, ents, cl, by rw [g2, hs hk]; exact h1, h2, fun i e he => ?_⟩
    obtain ⟨ent, ck, cv, k1, k2, k3, k4, k5⟩ := h3 i e he
    exact ⟨ent, ck, cv, k1, RepC.mono hI hw k _ _ k2, k3, RepC.mono hI hw v _ _ k4, k5⟩

@[ext] structure St where
  T : List AV
  H : List Hs

structure Emb (Γ : Cx) (S : St) (a : Act) (w : World) : Prop where
  defers : a.defers = []
  size : a.tmps.size = S.T.length
  tmp : ∀ (i : Nat) (x : AV), S.T[i]? = some x → ∃ v, a.tmps[i]? = some v ∧ Ra w Γ x v
  heap : EmbH Γ S.H w

end Go.Ab
