/- Soundness, second part: what writing and making blocks does to an embedded heap. -/
import Derived.Test.YtffapeomfjfedaaAb4
set_option linter.unusedVariables false
namespace Go.Ab

theorem EmbH.step {Γ Γ' : Cx} {H H' : List Hs} {w w' : World} (e : EmbH Γ H w) (X : Nat → Prop) (hI : Γ'.I = Γ.I)
    (hAl : ∀ b, Γ.A b → Γ'.A b ∧ Γ'.ν b = Γ.ν b ∧ Γ'.κ b = Γ.κ b)
    (hA' : ∀ b, Γ'.A b ↔ ∃ h, H'[b]? = some h ∧ h ≠ .free)
    (hX : ∀ n, n < w.heap.size → ¬ X n → w'.heap[n]? = w.heap[n]?) (hXw : ∀ n, X n → Wr Γ H n ∨ w.heap.size ≤ n)
    (hblk : ∀ b B, H'[b]? = some (.live B) → (RepB w' Γ' b B ∧ (Γ'.κ b ≠ 0 → Wr Γ H (Γ'.ν b) ∨ w.heap.size ≤ Γ'.ν b)) ∨ (H[b]? = some (.live B) ∧ (Γ.κ b ≠ 0 → ¬ X (Γ.ν b))))
    (hinj : ∀ b b', Live H' b → Live H' b' → Γ'.κ b ≠ 0 → Γ'.κ b' ≠ 0 → Γ'.ν b = Γ'.ν b' → b = b')
    (hs : w.heap.size ≤ w'.heap.size) (ho : w'.os = w.os) (hout : w'.output = w.output) :
    EmbH Γ' H' w' ∧ Ext Γ H w Γ' H' w' := by
  have hIk : ∀ b, Γ.I b → w'.heap[b]? = w.heap[b]? := fun b hb => hX b (e.old b hb) fun hx => by
    rcases hXw b hx with ⟨c, hc, hk, rfl⟩ | hge
    · exact e.imm c hc hk hb
    · have := e.old b hb; omega
  have hmono : ∀ b, Γ.I b → Γ'.I b := fun b hb => by rw [hI]; exact hb
  have hwr : ∀ b, Live H' b → Γ'.κ b ≠ 0 → Wr Γ H (Γ'.ν b) ∨ w.heap.size ≤ Γ'.ν b := fun b hb hk => by
    obtain ⟨B, hB⟩ := hb
    rcases hblk b B hB with h | ⟨h, _⟩
    · exact h.2 hk
    · left
      obtain ⟨_, k1, k2⟩ := hAl b (e.alive ⟨B, h⟩)
      exact ⟨b, ⟨B, h⟩, by rw [← k2]; exact hk, k1.symm⟩
  refine ⟨⟨fun b B hB => ?_, hinj, fun b hb hk hi => ?_, fun n hn => ?_, hA'⟩, ⟨fun n hn hnw => ?_, hs, ho, hout, fun n hn => ?_, fun n hn => ?_, hmono, hAl⟩⟩
  · rcases hblk b B hB with h | ⟨h, hx⟩
    · exact h.1
    · have hal := e.alive ⟨B, h⟩
      exact RepB.mono hmono hIk hAl hal (fun hk => hX _ (e.lt ⟨B, h⟩ hk) (hx hk)) (e.blk b B h)
  · rw [hI] at hi
    rcases hwr b hb hk with ⟨c, hc, hck, hcn⟩ | h
    · rw [← hcn] at hi; exact e.imm c hc hck hi
    · have := e.old _ hi; omega
  · rw [hI] at hn
    exact Nat.lt_of_lt_of_le (e.old n hn) hs
  · exact hX n hn fun hx => by
      rcases hXw n hx with h | h
      · exact hnw h
      · omega
  · obtain ⟨b, hb, hk, rfl⟩ := hn
    exact hwr b hb hk
  · rw [hI] at hn; exact .inl hn

theorem live_set {H : List Hs} {k b : Nat} {x : Hs} {B : Blk} (h : (H.set k x)[b]? = some (.live B)) : (b = k ∧ x = .live B) ∨ (b ≠ k ∧ H[b]? = some (.live B)) := by
  by_cases hb : k = b
  · subst hb
    rw [List.getElem?_set] at h
    simp only [if_true] at h
    split at h
    · cases h; exact .inl ⟨rfl, rfl⟩
    · cases h
  · rw [List.getElem?_set_ne hb] at h
    exact .inr ⟨fun h => hb h.symm, h⟩

def upd {α : Type} (f : Nat → α) (k : Nat) (v : α) : Nat → α := fun n => if n = k then v else f n

theorem upd_self {α : Type} {f : Nat → α} {k : Nat} {v : α} : upd f k v k = v := by simp [upd]
theorem upd_ne {α : Type} {f : Nat → α} {k : Nat} {v : α} {n : Nat} (h : n ≠ k) : upd f k v n = f n := by simp [upd, h]

/-- The context with one block more. -/
def Cx.new (Γ : Cx) (k n c : Nat) : Cx := { Γ with A := fun b => Γ.A b ∨ b = k, ν := upd Γ.ν k n, κ := upd Γ.κ k c }

theorem not_A_free {Γ : Cx} {H : List Hs} {w : World} (e : EmbH Γ H w) {k : Nat} (hk : H[k]? = some .free) : ¬ Γ.A k := fun h => by
  obtain ⟨x, hx, hn⟩ := (e.al k).1 h
  rw [hk] at hx; cases hx; exact hn rfl

theorem new_al {Γ : Cx} {H : List Hs} {w : World} (e : EmbH Γ H w) {k n c : Nat} (hk : H[k]? = some .free) :
    ∀ b, Γ.A b → (Γ.new k n c).A b ∧ (Γ.new k n c).ν b = Γ.ν b ∧ (Γ.new k n c).κ b = Γ.κ b := fun b hb => by
  have hne : b ≠ k := fun h => not_A_free e hk (h ▸ hb)
  exact ⟨.inl hb, upd_ne hne, upd_ne hne⟩

theorem isFree_eq {H : List Hs} {k : Nat} (h : isFree H k = true) : H[k]? = some .free := by
  unfold isFree at h
  split at h
  · rename_i hk; exact hk
  · cases h

theorem hget_eq {H : List Hs} {b : Nat} {B : Blk} (h : hget H b = some B) : H[b]? = some (.live B) := by
  unfold hget at h
  split at h
  · rename_i B' hB; cases h; exact hB
  · cases h

theorem lt_of_get {H : List Hs} {k : Nat} {x : Hs} (h : H[k]? = some x) : k < H.length := by
  rcases Nat.lt_or_ge k H.length with h' | h'
  · exact h'
  · rw [List.getElem?_eq_none h'] at h; cases h

theorem set_al {Γ : Cx} {H : List Hs} {w : World} (e : EmbH Γ H w) {k n c : Nat} {B : Blk} (hk : H[k]? = some .free) (b : Nat) :
    (Γ.new k n c).A b ↔ ∃ h, (H.set k (.live B))[b]? = some h ∧ h ≠ .free := by
  simp only [Cx.new]
  by_cases hb : k = b
  · subst hb
    rw [List.getElem?_set]
    simp [lt_of_get hk]
  · rw [List.getElem?_set_ne hb, e.al]
    exact ⟨fun h => h.resolve_right (fun h => hb h.symm), .inl⟩

theorem al_set {H : List Hs} {b : Nat} {B : Blk} {x : Hs} (hb : H[b]? = some (.live B)) (hx : x ≠ .free) (c : Nat) :
    (∃ h, H[c]? = some h ∧ h ≠ .free) ↔ ∃ h, (H.set b x)[c]? = some h ∧ h ≠ .free := by
  by_cases hbc : b = c
  · subst hbc
    rw [List.getElem?_set]
    simp only [if_true, lt_of_get hb]
    exact ⟨fun _ => ⟨x, rfl, hx⟩, fun _ => ⟨_, hb, by simp⟩⟩
  · rw [List.getElem?_set_ne hbc]

/-- A new block. -/
theorem EmbH.alloc {Γ : Cx} {H : List Hs} {w w' : World} (e : EmbH Γ H w) {k c : Nat} {B : Blk} (hk : H[k]? = some .free)
    (hold : ∀ n, n < w.heap.size → w'.heap[n]? = w.heap[n]?) (hs : w.heap.size ≤ w'.heap.size) (ho : w'.os = w.os) (hout : w'.output = w.output)
    (hB : RepB w' (Γ.new k w.heap.size c) k B) :
    EmbH (Γ.new k w.heap.size c) (H.set k (.live B)) w' ∧ Ext Γ H w (Γ.new k w.heap.size c) (H.set k (.live B)) w' := by
  have hkn : ∀ b, Live H b → b ≠ k := fun b ⟨B', h⟩ he => by subst he; rw [hk] at h; cases h
  refine e.step (fun _ => False) rfl (new_al e hk) (set_al e hk) (fun n hn _ => hold n hn) (fun _ h => h.elim) (fun b B' hb => ?_) (fun b b' hb hb' hkb hkb' heq => ?_) hs ho hout
  · rcases live_set hb with ⟨rfl, h⟩ | ⟨_, h⟩
    · cases h
      exact .inl ⟨hB, fun _ => .inr (by simp [Cx.new, upd])⟩
    · exact .inr ⟨h, fun _ => id⟩
  · obtain ⟨B1, h1⟩ := hb
    obtain ⟨B2, h2⟩ := hb'
    rcases live_set h1 with ⟨rfl, _⟩ | ⟨n1, g1⟩ <;> rcases live_set h2 with ⟨rfl, _⟩ | ⟨n2, g2⟩
    · rfl
    · simp only [Cx.new, upd_self, upd_ne n2] at heq hkb'
      have := e.lt ⟨B2, g2⟩ hkb'; omega
    · simp only [Cx.new, upd_self, upd_ne n1] at heq hkb
      have := e.lt ⟨B1, g1⟩ hkb; omega
    · simp only [Cx.new, upd_ne n1, upd_ne n2] at heq hkb hkb'
      exact e.inj _ _ ⟨B1, g1⟩ ⟨B2, g2⟩ hkb hkb' heq

/-- A live block is written. -/
theorem EmbH.write {Γ : Cx} {H : List Hs} {w w' : World} (e : EmbH Γ H w) {b : Nat} {B B' : Blk} (hb : H[b]? = some (.live B)) (hkb : Γ.κ b ≠ 0)
    (hold : ∀ n, n ≠ Γ.ν b → w'.heap[n]? = w.heap[n]?) (hs : w.heap.size ≤ w'.heap.size) (ho : w'.os = w.os) (hout : w'.output = w.output)
    (hB : RepB w' Γ b B') : EmbH Γ (H.set b (.live B')) w' ∧ Ext Γ H w Γ (H.set b (.live B')) w' := by
  refine e.step (fun n => n = Γ.ν b) rfl (fun _ h => ⟨h, rfl, rfl⟩) (fun c => ?_) (fun n _ hx => hold n hx) (fun n hx => .inl ⟨b, ⟨B, hb⟩, hkb, hx.symm⟩) (fun c B1 hc => ?_) (fun c c' hc hc' hkc hkc' heq => ?_) hs ho hout
  · rw [e.al]
    exact al_set hb (by simp) c
  · rcases live_set hc with ⟨rfl, h⟩ | ⟨hne, h⟩
    · cases h; exact .inl ⟨hB, fun _ => .inl ⟨c, ⟨B, hb⟩, hkb, rfl⟩⟩
    · exact .inr ⟨h, fun hk hx => hne (e.inj _ _ ⟨_, h⟩ ⟨_, hb⟩ hk hkb hx)⟩
  · have hl : ∀ d, Live (H.set b (.live B')) d → Live H d := fun d ⟨B1, h⟩ => by
      rcases live_set h with ⟨rfl, _⟩ | ⟨_, h⟩
      · exact ⟨B, hb⟩
      · exact ⟨_, h⟩
    exact e.inj _ _ (hl _ hc) (hl _ hc') hkc hkc' heq

/-- A live block is given up. -/
theorem EmbH.kill {Γ : Cx} {H : List Hs} {w : World} (e : EmbH Γ H w) {b : Nat} {B : Blk} (hb : H[b]? = some (.live B)) :
    EmbH Γ (H.set b .dead) w ∧ Ext Γ H w Γ (H.set b .dead) w := by
  refine e.step (fun _ => False) rfl (fun _ h => ⟨h, rfl, rfl⟩) (fun c => ?_) (fun n _ _ => rfl) (fun n hx => hx.elim) (fun c B1 hc => ?_) (fun c c' hc hc' hkc hkc' heq => ?_) (Nat.le_refl _) rfl rfl
  · rw [e.al]
    exact al_set hb (by simp) c
  · rcases live_set hc with ⟨rfl, h⟩ | ⟨hne, h⟩
    · cases h
    · exact .inr ⟨h, fun _ => id⟩
  · have hl : ∀ d, Live (H.set b .dead) d → Live H d := fun d ⟨B1, h⟩ => by
      rcases live_set h with ⟨_, h'⟩ | ⟨_, h'⟩
      · cases h'
      · exact ⟨_, h'⟩
    exact e.inj _ _ (hl _ hc) (hl _ hc') hkc hkc' heq

/-- A live block goes over into another one in its place. -/
theorem EmbH.move {Γ : Cx} {H : List Hs} {w w' : World} (e : EmbH Γ H w) {b k : Nat} {B B' : Blk} (hb : H[b]? = some (.live B)) (hk : H[k]? = some .free)
    (hold : ∀ n, (Γ.κ b ≠ 0 → n ≠ Γ.ν b) → w'.heap[n]? = w.heap[n]?) (hs : w.heap.size ≤ w'.heap.size) (ho : w'.os = w.os) (hout : w'.output = w.output)
    (hB : RepB w' (Γ.new k (Γ.ν b) (Γ.κ b)) k B') :
    EmbH (Γ.new k (Γ.ν b) (Γ.κ b)) ((H.set b .dead).set k (.live B')) w' ∧ Ext Γ H w (Γ.new k (Γ.ν b) (Γ.κ b)) ((H.set b .dead).set k (.live B')) w' := by
  have hbk : b ≠ k := fun h => by subst h; rw [hb] at hk; cases hk
  refine e.step (fun n => Γ.κ b ≠ 0 ∧ n = Γ.ν b) rfl (new_al e hk) (fun c => ?_) (fun n _ hx => hold n fun hk he => hx ⟨hk, he⟩) (fun n hx => .inl ⟨b, ⟨B, hb⟩, hx.1, hx.2.symm⟩) (fun c B1 hc => ?_) (fun c c' hc hc' hkc hkc' heq => ?_) hs ho hout
  · simp only [Cx.new]
    by_cases hck : k = c
    · subst hck; rw [List.getElem?_set]; simp [lt_of_get hk]
    · rw [List.getElem?_set_ne hck]
      have hck' : ¬ c = k := fun h => hck h.symm
      simp only [hck', or_false, e.al]
      exact al_set hb (by simp) c
  · rcases live_set hc with ⟨rfl, h⟩ | ⟨hne, h⟩
    · cases h; exact .inl ⟨hB, fun hkc => .inl ⟨b, ⟨B, hb⟩, by simpa [Cx.new, upd] using hkc, by simp [Cx.new, upd]⟩⟩
    · rcases live_set h with ⟨rfl, h'⟩ | ⟨hne', h'⟩
      · cases h'
      · exact .inr ⟨h', fun hkc hx => hne' (e.inj _ _ ⟨_, h'⟩ ⟨_, hb⟩ hkc hx.1 hx.2)⟩
  · have hl : ∀ d, Live ((H.set b .dead).set k (.live B')) d → d = k ∨ (d ≠ k ∧ d ≠ b ∧ Live H d) := fun d ⟨B1, h⟩ => by
      rcases live_set h with ⟨rfl, _⟩ | ⟨hne, h⟩
      · exact .inl rfl
      · rcases live_set h with ⟨rfl, h'⟩ | ⟨hne', h'⟩
        · cases h'
        · exact .inr ⟨hne, hne', _, h'⟩
    rcases hl _ hc with rfl | ⟨h1, h2, h3⟩ <;> rcases hl _ hc' with rfl | ⟨g1, g2, g3⟩
    · rfl
    · simp only [Cx.new, upd_self, upd_ne g1] at heq hkc hkc'
      exact absurd (e.inj _ _ ⟨B, hb⟩ g3 hkc hkc' heq).symm g2
    · simp only [Cx.new, upd_self, upd_ne h1] at heq hkc hkc'
      exact absurd (e.inj _ _ h3 ⟨B, hb⟩ hkc hkc' heq) h2
    · simp only [Cx.new, upd_ne h1, upd_ne g1] at heq hkc hkc'
      exact e.inj _ _ h3 g3 hkc hkc' heq

/-- Only garbage has come. -/
theorem EmbH.garbage {Γ : Cx} {H : List Hs} {w w' : World} (e : EmbH Γ H w) (hold : ∀ n, n < w.heap.size → w'.heap[n]? = w.heap[n]?) (hs : w.heap.size ≤ w'.heap.size)
    (ho : w'.os = w.os) (hout : w'.output = w.output) : EmbH Γ H w' ∧ Ext Γ H w Γ H w' :=
  e.step (fun _ => False) rfl (fun _ h => ⟨h, rfl, rfl⟩) e.al (fun n hn _ => hold n hn) (fun _ h => h.elim) (fun b B hb => .inr ⟨hb, fun _ => id⟩) e.inj hs ho hout

/-! ### Lists of abstract values against lists of values -/

def Fa (w : World) (Γ : Cx) : List AV → List Value → Prop
  | [], [] => True
  | a :: l, v :: vs => Ra w Γ a v ∧ Fa w Γ l vs
  | _, _ => False

section
variable {w : World} {Γ : Cx}

theorem Fa.length : ∀ {l : List AV} {vs : List Value}, Fa w Γ l vs → l.length = vs.length
  | [], [], _ => rfl
  | _ :: _, _ :: _, h => by simp only [List.length_cons, Fa.length h.2]
  | [], _ :: _, h => h.elim
  | _ :: _, [], h => h.elim

theorem Fa.app : ∀ {l m : List AV} {vs us : List Value}, Fa w Γ l vs → Fa w Γ m us → Fa w Γ (l ++ m) (vs ++ us)
  | [], _, [], _, _, h => h
  | _ :: _, _, _ :: _, _, h, h' => ⟨h.1, Fa.app h.2 h'⟩
  | [], _, _ :: _, _, h, _ => h.elim
  | _ :: _, _, [], _, h, _ => h.elim

theorem Fa.take : ∀ (n : Nat) {l : List AV} {vs : List Value}, Fa w Γ l vs → Fa w Γ (l.take n) (vs.take n)
  | 0, _, _, _ => by simp [Fa]
  | n + 1, [], [], _ => by simp [Fa]
  | n + 1, _ :: _, _ :: _, h => ⟨h.1, Fa.take n h.2⟩
  | _ + 1, [], _ :: _, h => h.elim
  | _ + 1, _ :: _, [], h => h.elim

theorem Fa.drop : ∀ (n : Nat) {l : List AV} {vs : List Value}, Fa w Γ l vs → Fa w Γ (l.drop n) (vs.drop n)
  | 0, _, _, h => by simpa using h
  | n + 1, [], [], _ => by simp [Fa]
  | n + 1, _ :: _, _ :: _, h => by simpa using Fa.drop n h.2
  | _ + 1, [], _ :: _, h => h.elim
  | _ + 1, _ :: _, [], h => h.elim

theorem Fa.get : ∀ {l : List AV} {vs : List Value}, Fa w Γ l vs → ∀ (i : Nat) (a : AV), l[i]? = some a → ∃ v, vs[i]? = some v ∧ Ra w Γ a v
  | [], [], _, i, a, h => by simp at h
  | _ :: _, v :: _, h, 0, a, e => by simp at e; subst e; exact ⟨v, rfl, h.1⟩
  | _ :: _, _ :: _, h, i + 1, a, e => by simpa using Fa.get h.2 i a (by simpa using e)
  | [], _ :: _, h, _, _, _ => h.elim
  | _ :: _, [], h, _, _, _ => h.elim

theorem Fa.of_get : ∀ {l : List AV} {vs : List Value}, l.length = vs.length → (∀ (i : Nat) (a : AV), l[i]? = some a → ∃ v, vs[i]? = some v ∧ Ra w Γ a v) → Fa w Γ l vs
  | [], [], _, _ => trivial
  | a :: l, v :: vs, hl, h => ⟨by obtain ⟨u, hu, hr⟩ := h 0 a rfl; simp at hu; subst hu; exact hr, Fa.of_get (by simpa using hl) fun i a hi => by
      obtain ⟨u, hu, hr⟩ := h (i + 1) a (by simpa using hi)
      exact ⟨u, by simpa using hu, hr⟩⟩
  | [], _ :: _, hl, _ => by simp at hl
  | _ :: _, [], hl, _ => by simp at hl

theorem Rp_toAV : ∀ {l : List AV} {vs : List Value}, Rp w Γ (toAV l) vs ↔ Fa w Γ l vs
  | [], vs => by cases vs <;> simp [toAV, Rp, Fa]
  | a :: l, [] => by simp [toAV, Rp, Fa]
  | a :: l, v :: vs => by
    simp only [toAV, Rp, Fa, List.cons.injEq, Ra]
    constructor
    · rintro ⟨u, us, ⟨rfl, rfl⟩, h1, h2⟩; exact ⟨h1, Rp_toAV.1 h2⟩
    · rintro ⟨h1, h2⟩; exact ⟨v, vs, ⟨rfl, rfl⟩, h1, Rp_toAV.2 h2⟩

theorem ofAV_sound : ∀ {l : AV} {vs : List Value}, Rp w Γ l vs → ∀ (i : Nat) (a : AV), (ofAV l)[i]? = some a → ∃ v, vs[i]? = some v ∧ Ra w Γ a v
  | .cons a l, vs, h, 0, x, e => by
    simp only [Rp] at h
    obtain ⟨v, us, rfl, h1, h2⟩ := h
    simp [ofAV] at e; subst e
    exact ⟨v, rfl, h1⟩
  | .cons a l, vs, h, i + 1, x, e => by
    simp only [Rp] at h
    obtain ⟨v, us, rfl, h1, h2⟩ := h
    simp only [ofAV, List.getElem?_cons_succ] at e ⊢
    exact ofAV_sound h2 i x e
  | .undef, _, _, _, _, e => by simp [ofAV] at e
  | .val .., _, _, _, _, e => by simp [ofAV] at e
  | .gd .., _, _, _, _, e => by simp [ofAV] at e
  | .ref .., _, _, _, _, e => by simp [ofAV] at e
  | .sl .., _, _, _, _, e => by simp [ofAV] at e
  | .vsl .., _, _, _, _, e => by simp [ofAV] at e
  | .mref .., _, _, _, _, e => by simp [ofAV] at e
  | .fn .., _, _, _, _, e => by simp [ofAV] at e
  | .tup .., _, _, _, _, e => by simp [ofAV] at e
  | .agg .., _, _, _, _, e => by simp [ofAV] at e
  | .nil, _, _, _, _, e => by simp [ofAV] at e

end

end Go.Ab
