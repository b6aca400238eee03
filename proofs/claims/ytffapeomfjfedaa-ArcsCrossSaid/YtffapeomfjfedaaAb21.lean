/- Regions whose order is drawn: any order that the edges allow leaves what the order of the text leaves. -/
import Derived.Test.YtffapeomfjfedaaAb20
set_option linter.unusedVariables false
set_option linter.unusedSimpArgs false
namespace Go.Ab

/-! ### What may change places -/
def memN : Nat → List Nat → Bool
  | _, [] => false
  | n, x :: xs => Nat.beq n x || memN n xs
def disjN : List Nat → List Nat → Bool
  | [], _ => true
  | x :: xs, l => !memN x l && disjN xs l
def dstOk (d : Option Nat) (l : List Nat) : Bool := match d with
  | none => true
  | some d => !memN d l
def indep (x y : Inf) : Bool :=
  dstOk x.dst y.uses && dstOk x.dst y.dst.toList && dstOk y.dst x.uses && disjN x.ups y.rd && disjN x.ups y.ups && disjN x.rd y.ups
def chkPrev (m : Nat) (y : Inf) : List Inf → Bool
  | [] => true
  | x :: xs => (Nat.testBit m x.i || indep x y) && chkPrev m y xs
def chkAll : List Nat → List Inf → List Inf → Bool
  | m :: ms, prev, y :: ys => Nat.blt m (2 ^ y.i) && chkPrev m y prev && chkAll ms (y :: prev) ys
  | _, _, [] => true
  | [], _, _ :: _ => false

theorem memN_iff {n : Nat} : ∀ {l : List Nat}, memN n l = true ↔ n ∈ l
  | [] => by simp [memN]
  | x :: l => by simp [memN, memN_iff (l := l)]

theorem disjN_spec : ∀ {l m : List Nat}, disjN l m = true → ∀ x ∈ l, x ∉ m
  | [], _, _, _, h => by cases h
  | y :: l, m, h, x, hx => by
    simp only [disjN, Bool.and_eq_true, Bool.not_eq_true'] at h
    rcases List.mem_cons.1 hx with rfl | hx
    · intro hm; rw [memN_iff.2 hm] at h; cases h.1
    · exact disjN_spec h.2 x hx

theorem dstOk_spec {d : Option Nat} {l : List Nat} (h : dstOk d l = true) : ∀ x ∈ l, d ≠ some x := by
  intro x hx hd
  subst hd
  simp only [dstOk, Bool.not_eq_true'] at h
  rw [memN_iff.2 hx] at h; cases h

structure Indep (x y : Inf) : Prop where
  du : ∀ n ∈ y.uses, x.dst ≠ some n
  dd : ∀ n, y.dst = some n → x.dst ≠ some n
  ud : ∀ n ∈ x.uses, y.dst ≠ some n
  ur : ∀ b ∈ x.ups, b ∉ y.rd
  uu : ∀ b ∈ x.ups, b ∉ y.ups
  ru : ∀ b ∈ x.rd, b ∉ y.ups

theorem indep_spec {x y : Inf} (h : indep x y = true) : Indep x y := by
  simp only [indep, Bool.and_eq_true] at h
  obtain ⟨⟨⟨⟨⟨h1, h2⟩, h3⟩, h4⟩, h5⟩, h6⟩ := h
  exact ⟨dstOk_spec h1, fun n hn => dstOk_spec h2 n (by rw [hn]; simp), dstOk_spec h3, disjN_spec h4, disjN_spec h5, disjN_spec h6⟩

theorem chkPrev_spec {m : Nat} {y : Inf} : ∀ {l : List Inf}, chkPrev m y l = true → ∀ x ∈ l, m.testBit x.i = true ∨ Indep x y
  | [], _, _, hx => by cases hx
  | z :: l, h, x, hx => by
    simp only [chkPrev, Bool.and_eq_true, Bool.or_eq_true] at h
    rcases List.mem_cons.1 hx with rfl | hx
    · exact h.1.imp id indep_spec
    · exact chkPrev_spec h.2 x hx

theorem chkAll_spec : ∀ {M : List Nat} {prev l : List Inf}, chkAll M prev l = true →
    (∀ (j : Nat) (y : Inf), l[j]? = some y → M.getD j 0 < 2 ^ y.i ∧ (∀ x ∈ prev, (M.getD j 0).testBit x.i = true ∨ Indep x y) ∧ ∀ (k : Nat) (x : Inf), k < j → l[k]? = some x → (M.getD j 0).testBit x.i = true ∨ Indep x y)
  | m :: M, prev, z :: l, h, j, y, hy => by
    simp only [chkAll, Bool.and_eq_true] at h
    obtain ⟨⟨h1, h2⟩, h3⟩ := h
    cases j with
    | zero =>
      simp only [List.getElem?_cons_zero, Option.some.injEq] at hy
      subst hy
      refine ⟨?_, chkPrev_spec h2, fun k x hk => by omega⟩
      have h1' : m + 1 ≤ 2 ^ z.i := by simpa [Nat.blt] using h1
      have h1' : m < 2 ^ z.i := h1'
      simpa using h1'
    | succ j =>
      rw [List.getElem?_cons_succ] at hy
      obtain ⟨g1, g2, g3⟩ := chkAll_spec h3 j y hy
      refine ⟨by simpa using g1, fun x hx => by simpa using g2 x (List.mem_cons_of_mem _ hx), fun k x hk hx => ?_⟩
      cases k with
      | zero =>
        simp only [List.getElem?_cons_zero, Option.some.injEq] at hx
        subst hx
        simpa using g2 z (List.mem_cons_self ..)
      | succ k =>
        rw [List.getElem?_cons_succ] at hx
        simpa using g3 k x (by omega) hx
  | [], _, _ :: _, h, _, _, _ => by simp [chkAll] at h
  | [], _, [], _, _, _, hy => by simp at hy
  | _ :: _, _, [], _, _, _, hy => by simp at hy

/-! ### Some of the operations, in the order of the text -/
section
variable {X E : Type}

def foldK (act : E → X → X) : List E → Nat → (Nat → Bool) → X → X
  | [], _, _, x => x
  | e :: es, i, L, x => foldK act es (i + 1) L (if L i then act e x else x)

theorem foldK_proj {Y : Type} {act : E → X → X} {act' : E → Y → Y} (pr : X → Y) (h : ∀ e x, pr (act e x) = act' e (pr x)) : ∀ (es : List E) (i : Nat) (L : Nat → Bool) (x : X), pr (foldK act es i L x) = foldK act' es i L (pr x)
  | [], _, _, _ => rfl
  | e :: es, i, L, x => by
    simp only [foldK]
    rw [foldK_proj pr h es]
    cases L i <;> simp [h]

theorem foldK_agree {act : E → X → X} {L L' : Nat → Bool} : ∀ (es : List E) (i : Nat) (x : X), (∀ k e, es[k]? = some e → L (i + k) ≠ L' (i + k) → ∀ x, act e x = x) → foldK act es i L x = foldK act es i L' x
  | [], _, _, _ => rfl
  | e :: es, i, x, h => by
    simp only [foldK]
    have h0 : (if L i then act e x else x) = (if L' i then act e x else x) := by
      by_cases hl : L i = L' i
      · rw [hl]
      · have := h 0 e rfl (by simpa using hl)
        cases L i <;> cases L' i <;> simp [this]
    rw [h0]
    exact foldK_agree es (i + 1) _ fun k e' hk hne => h (k + 1) e' (by simpa using hk) (by rwa [show i + (k + 1) = i + 1 + k by omega])

theorem foldK_id {act : E → X → X} {L : Nat → Bool} : ∀ (es : List E) (i : Nat) (x : X), (∀ k e, es[k]? = some e → L (i + k) = true → ∀ x, act e x = x) → foldK act es i L x = x
  | [], _, _, _ => rfl
  | e :: es, i, x, h => by
    simp only [foldK]
    have h0 : (if L i then act e x else x) = x := by
      cases hl : L i
      · rfl
      · simp [h 0 e rfl (by simpa using hl)]
    rw [h0]
    exact foldK_id es (i + 1) _ fun k e' hk hl => h (k + 1) e' (by simpa using hk) (by rwa [show i + (k + 1) = i + 1 + k by omega])

def addL (L : Nat → Bool) (j : Nat) : Nat → Bool := fun k => k == j || L k

theorem foldK_add {act : E → X → X} {L : Nat → Bool} : ∀ (es : List E) (i j : Nat) (e : E) (x : X), es[j]? = some e → L (i + j) = false → (∀ k e', j < k → es[k]? = some e' → L (i + k) = true → ∀ x, act e' x = x) →
    foldK act es i (addL L (i + j)) x = act e (foldK act es i L x)
  | e0 :: es, i, 0, e, x, hj, hl, h => by
    simp only [List.getElem?_cons_zero, Option.some.injEq] at hj
    subst hj
    simp only [foldK]
    have h1 : addL L (i + 0) i = true := by simp [addL]
    rw [show L i = false from hl, h1, if_pos rfl]
    simp only [Bool.false_eq_true, if_false]
    have hid : ∀ k e', es[k]? = some e' → L (i + 1 + k) = true → ∀ x, act e' x = x := fun k e' hk hl => h (k + 1) e' (by omega) (by simpa using hk) (by rwa [show i + (k + 1) = i + 1 + k by omega])
    rw [foldK_id es (i + 1) (L := L) x hid, foldK_id es (i + 1) _ fun k e' hk hl => hid k e' hk (by
      simp only [addL, Bool.or_eq_true, beq_iff_eq] at hl
      exact hl.resolve_left (by omega))]
  | e0 :: es, i, j + 1, e, x, hj, hl, h => by
    simp only [foldK]
    have h1 : addL L (i + (j + 1)) i = L i := by
      simp only [addL]
      rw [show (i == i + (j + 1)) = false by simp]
      rfl
    rw [h1, show i + (j + 1) = (i + 1) + j by omega]
    exact foldK_add es (i + 1) j e _ (by simpa using hj) (by rwa [show i + 1 + j = i + (j + 1) by omega]) fun k e' hk hk' hl => h (k + 1) e' (by omega) (by simpa using hk') (by rwa [show i + (k + 1) = i + 1 + k by omega])
  | [], _, _, _, _, hj, _, _ => by simp at hj

end

abbrev Rec := AOp × Ef

def appS (es : List Rec) (L : Nat → Bool) (S : St) : St := foldK (fun (p : Rec) S => S.step p.1.dst p.2) es 0 L S

def actT (n : Nat) (p : Rec) (x : Option AV) : Option AV := if p.1.dst = some n then x.map fun _ => p.2.v else x
def putAt (up : List (Nat × Hs)) (b : Nat) (x : Option Hs) : Option Hs := up.foldl (fun x q => if q.1 = b then x.map fun _ => q.2 else x) x
def actH (b : Nat) (p : Rec) (x : Option Hs) : Option Hs := putAt p.2.up b x

theorem setT_get {T : List AV} {d : Option Nat} {v : AV} {n : Nat} : (setT T d v)[n]? = if d = some n then T[n]?.map fun _ => v else T[n]? := by
  cases d with
  | none => simp [setT]
  | some d =>
    simp only [setT, List.getElem?_set, Option.some.injEq]
    by_cases h : d = n
    · subst h
      simp only [if_true]
      split
      · rename_i h; simp [h]
      · rename_i h; simp [List.getElem?_eq_none (Nat.le_of_not_lt h)]
    · simp [h]

theorem putUp_get : ∀ {up : List (Nat × Hs)} {H : List Hs} {b : Nat}, (putUp H up)[b]? = putAt up b H[b]?
  | [], _, _ => rfl
  | q :: up, H, b => by
    simp only [putUp]
    rw [putUp_get (up := up)]
    simp only [putAt, List.foldl_cons]
    congr 1
    rw [List.getElem?_set]
    by_cases h : q.1 = b
    · subst h
      simp only [if_true]
      split
      · rename_i h; simp [h]
      · rename_i h; simp [List.getElem?_eq_none (Nat.le_of_not_lt h)]
    · simp [h]

theorem putAt_id {b : Nat} : ∀ {up : List (Nat × Hs)}, (∀ p ∈ up, p.1 ≠ b) → ∀ x, putAt up b x = x
  | [], _, _ => rfl
  | q :: up, h, x => by
    have h1 := h q (List.mem_cons_self ..)
    simp only [putAt, List.foldl_cons, if_neg h1]
    exact putAt_id (fun p hp => h p (List.mem_cons_of_mem _ hp)) x

theorem appS_T {es : List Rec} {L : Nat → Bool} {S : St} (n : Nat) : (appS es L S).T[n]? = foldK (actT n) es 0 L S.T[n]? :=
  foldK_proj (fun S : St => S.T[n]?) (fun p S => by simp only [St.step, setT_get, actT]) es 0 L S
theorem appS_H {es : List Rec} {L : Nat → Bool} {S : St} (b : Nat) : (appS es L S).H[b]? = foldK (actH b) es 0 L S.H[b]? :=
  foldK_proj (fun S : St => S.H[b]?) (fun p S => by simp only [St.step, putUp_get, actH]) es 0 L S

def ifo (j : Nat) (p : Rec) : Inf := infOf j p.1 p.2

theorem actH_id {b : Nat} {p : Rec} (h : b ∉ (ifo 0 p).ups) : ∀ x, actH b p x = x :=
  putAt_id fun q hq e => h (by rw [← e]; exact List.mem_map_of_mem hq)
theorem actT_id {n : Nat} {p : Rec} (h : p.1.dst ≠ some n) : ∀ x, actT n p x = x := fun x => if_neg h

/-- One more. -/
theorem appS_add {es : List Rec} {L : Nat → Bool} {S : St} {j : Nat} {p : Rec} (hj : es[j]? = some p) (hl : L j = false) (h : ∀ k q, j < k → es[k]? = some q → L k = true → Indep (ifo j p) (ifo k q)) :
    appS es (addL L j) S = (appS es L S).step p.1.dst p.2 := by
  have hT : (appS es (addL L j) S).T = ((appS es L S).step p.1.dst p.2).T := by
    apply List.ext_getElem?
    intro n
    rw [appS_T]
    simp only [St.step, setT_get]
    rw [appS_T]
    by_cases hd : p.1.dst = some n
    · rw [if_pos hd]
      have := foldK_add (act := actT n) (L := L) es 0 j p S.T[n]? hj (by simpa using hl) fun k q hk hq hL => actT_id fun he => (h k q hk hq (by simpa using hL)).dd n he hd
      simp only [Nat.zero_add] at this
      rw [this]
      simp [actT, hd]
    · rw [if_neg hd]
      refine foldK_agree es 0 _ fun k q hk hne => ?_
      have : k = j := by
        simp only [addL, Nat.zero_add] at hne
        by_cases hkj : k = j
        · exact hkj
        · simp [hkj] at hne
      subst this
      rw [hj] at hk; cases hk
      exact actT_id hd
  have hH : (appS es (addL L j) S).H = ((appS es L S).step p.1.dst p.2).H := by
    apply List.ext_getElem?
    intro b
    rw [appS_H]
    simp only [St.step, putUp_get]
    rw [appS_H]
    by_cases hb : b ∈ (ifo 0 p).ups
    · have := foldK_add (act := actH b) (L := L) es 0 j p S.H[b]? hj (by simpa using hl) fun k q hk hq hL => actH_id fun he => (h k q hk hq (by simpa using hL)).uu b hb he
      simp only [Nat.zero_add] at this
      rw [this]
      rfl
    · have hid := actH_id hb
      rw [show putAt p.2.up b (foldK (actH b) es 0 L S.H[b]?) = actH b p (foldK (actH b) es 0 L S.H[b]?) from rfl, hid]
      refine foldK_agree es 0 _ fun k q hk hne => ?_
      have : k = j := by
        simp only [addL, Nat.zero_add] at hne
        by_cases hkj : k = j
        · exact hkj
        · simp [hkj] at hne
      subst this
      rw [hj] at hk; cases hk
      exact hid
  exact St.ext hT hH

end Go.Ab
