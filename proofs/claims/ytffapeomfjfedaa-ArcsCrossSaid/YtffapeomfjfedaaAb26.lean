/- Whole code as a function (runO): what it computes out of an abstract state. -/
import Derived.Test.YtffapeomfjfedaaAb25
set_option linter.unusedVariables false
set_option linter.unusedSimpArgs false
namespace Go.Ab

inductive Ex where
  | normal
  | exit (id : Nat)
  | ret

/-! ### Conditions and loops as functions -/
open Classical in
/-- A value under a condition. -/
noncomputable def gd {X : Type} (p : Prop) (x : Option X) : Option X := if p then x else none

theorem gd_pos {X : Type} {p : Prop} {x : Option X} (h : p) : gd p x = x := if_pos h
theorem gd_some {X : Type} {p : Prop} {x : Option X} {y : X} : gd p x = some y ↔ p ∧ x = some y := by
  unfold gd
  split
  · rename_i h; exact ⟨fun e => ⟨h, e⟩, fun e => e.2⟩
  · rename_i h; exact ⟨fun e => (nomatch e), fun e => absurd e.1 h⟩
theorem gd_map {X Y : Type} {p : Prop} {x : Option X} {f : X → Y} : (gd p x).map f = gd p (x.map f) := by
  unfold gd
  split <;> rfl

noncomputable def gdL {X : Type} : List Prop → Option X → Option X
  | [], x => x
  | p :: l, x => gd p (gdL l x)

theorem gdL_some {X : Type} {x : Option X} {y : X} : ∀ {l : List Prop}, gdL l x = some y ↔ allP l ∧ x = some y
  | [] => ⟨fun h => ⟨allP_nil, h⟩, fun h => h.2⟩
  | p :: l => by simp only [gdL, gd_some, gdL_some (l := l), allP_cons, and_assoc]
theorem gdL_map {X Y : Type} {x : Option X} {f : X → Y} : ∀ {l : List Prop}, (gdL l x).map f = gdL l (x.map f)
  | [] => rfl
  | p :: l => by simp only [gdL, gd_map, gdL_map (l := l)]

/-- A round of a loop: go on with a state, or leave with a result. -/
inductive Lp (S X : Type) where
  | go (s : S)
  | out (x : X)

def Lp.map {S X Y : Type} (f : X → Y) : Lp S X → Lp S Y
  | .go s => .go s
  | .out x => .out (f x)

theorem Lp.map_id {S X : Type} : ∀ {l : Lp S X}, Lp.map id l = l
  | .go _ => rfl
  | .out _ => rfl

section
variable {S X Y : Type}

def whileN (step : S → Option (Lp S X)) : Nat → S → Option X
  | 0, _ => none
  | n + 1, s => match step s with
    | some (.go s') => whileN step n s'
    | some (.out x) => some x
    | none => none

theorem whileN_succ {step : S → Option (Lp S X)} : ∀ {n : Nat} {s : S} {x : X}, whileN step n s = some x → whileN step (n + 1) s = some x
  | 0, _, _, h => by cases h
  | n + 1, s, x, h => by
    rw [whileN] at h ⊢
    split at h
    · exact whileN_succ h
    · exact h
    · cases h

theorem whileN_le {step : S → Option (Lp S X)} {n m : Nat} {s : S} {x : X} (hm : n ≤ m) (h : whileN step n s = some x) : whileN step m s = some x := by
  induction hm with
  | refl => exact h
  | step _ ih => exact whileN_succ ih

open Classical in
/-- The result of a loop that ends. -/
noncomputable def whileO (step : S → Option (Lp S X)) (s : S) : Option X :=
  if h : ∃ n x, whileN step n s = some x then some h.choose_spec.choose else none

theorem whileO_some {step : S → Option (Lp S X)} {s : S} {x : X} : whileO step s = some x ↔ ∃ n, whileN step n s = some x := by
  unfold whileO
  constructor
  · intro h
    split at h
    · rename_i hh
      have := hh.choose_spec.choose_spec
      rw [Option.some.injEq] at h
      rw [h] at this
      exact ⟨_, this⟩
    · cases h
  · rintro ⟨n, hn⟩
    have hh : ∃ n x, whileN step n s = some x := ⟨n, x, hn⟩
    rw [dif_pos hh]
    have h2 := hh.choose_spec.choose_spec
    have h3 := whileN_le (Nat.le_max_left n hh.choose) hn
    have h4 := whileN_le (Nat.le_max_right n hh.choose) h2
    rw [h3] at h4
    cases h4
    rfl

theorem whileO_eq (step : S → Option (Lp S X)) (s : S) : whileO step s = match step s with
    | some (.go s') => whileO step s'
    | some (.out x) => some x
    | none => none := by
  apply Option.ext
  intro x
  rw [whileO_some]
  constructor
  · rintro ⟨n, h⟩
    cases n with
    | zero => cases h
    | succ n =>
      rw [whileN] at h
      split at h
      · exact whileO_some.2 ⟨n, h⟩
      · exact h
      · cases h
  · intro h
    split at h
    · rename_i e
      obtain ⟨n, hn⟩ := whileO_some.1 h
      exact ⟨n + 1, by rw [whileN, e]; exact hn⟩
    · rename_i e; exact ⟨1, by rw [whileN, e]; exact h⟩
    · cases h

theorem whileN_mono {step step' : S → Option (Lp S X)} (hs : ∀ s r, step s = some r → step' s = some r) : ∀ {n : Nat} {s : S} {x : X}, whileN step n s = some x → whileN step' n s = some x
  | 0, _, _, h => by cases h
  | n + 1, s, x, h => by
    rw [whileN] at h ⊢
    split at h
    · rename_i e; rw [hs _ _ e]; exact whileN_mono hs h
    · rename_i e; rw [hs _ _ e]; exact h
    · cases h

theorem whileO_mono {step step' : S → Option (Lp S X)} (hs : ∀ s r, step s = some r → step' s = some r) {s : S} {x : X} (h : whileO step s = some x) : whileO step' s = some x := by
  obtain ⟨n, h⟩ := whileO_some.1 h
  exact whileO_some.2 ⟨n, whileN_mono hs h⟩

theorem whileN_map {step : S → Option (Lp S X)} {f : X → Y} : ∀ {n : Nat} {s : S}, whileN (fun s => (step s).map (Lp.map f)) n s = (whileN step n s).map f
  | 0, _ => rfl
  | n + 1, s => by
    rw [whileN, whileN]
    cases h : step s with
    | none => rfl
    | some r => cases r with
      | go s' => exact whileN_map
      | out x => rfl

theorem whileO_map {step : S → Option (Lp S X)} {f : X → Y} {s : S} : whileO (fun s => (step s).map (Lp.map f)) s = (whileO step s).map f := by
  apply Option.ext
  intro y
  rw [whileO_some]
  constructor
  · rintro ⟨n, h⟩
    rw [whileN_map] at h
    obtain ⟨x, h1, rfl⟩ := Option.map_eq_some_iff.1 h
    rw [whileO_some.2 ⟨n, h1⟩]; rfl
  · intro h
    obtain ⟨x, h1, rfl⟩ := Option.map_eq_some_iff.1 h
    obtain ⟨n, hn⟩ := whileO_some.1 h1
    exact ⟨n, by rw [whileN_map, hn]; rfl⟩
end

/-! ### Typed tuples -/
def Dens : List Ty → Type
  | [] => Unit
  | t :: ts => Den t × Dens ts

def densL : (ts : List Ty) → Dens ts → List AV
  | [], _ => []
  | t :: ts, x => .val t x.1 :: densL ts x.2

def toD : (ts : List Ty) → List AV → Option (Dens ts)
  | [], [] => some ()
  | t :: ts, x :: xs => match asD t x, toD ts xs with
    | some y, some l => some (y, l)
    | _, _ => none
  | _, _ => none

theorem toD_eq : ∀ {ts : List Ty} {env : List AV} {d : Dens ts}, toD ts env = some d → EnvOk ts env → env = densL ts d
  | [], [], d, h, _ => rfl
  | t :: ts, x :: xs, d, h, he => by
    obtain ⟨⟨z, rfl⟩, he⟩ := he
    simp only [toD] at h
    split at h
    · rename_i y l e1 e2
      cases h
      have e1 : castD t t z = some y := e1
      rw [castD_self] at e1
      cases e1
      simp only [densL]
      rw [toD_eq e2 he]
    · cases h
  | [], _ :: _, _, h, _ => by simp [toD] at h
  | _ :: _, [], _, h, _ => by simp [toD] at h

/-- The shape of a loop's state: slots and blocks. -/
structure LSh where
  sl : List (Nat × TV)
  bl : List TB

def LSh.ts (l : LSh) : List Ty := tsS l.sl ++ tsB l.bl

def slotsOf : List (Nat × TV) → List Nat
  | [] => []
  | p :: l => p.1 :: slotsOf l

def dstsOf : List AOp → List Nat
  | [] => []
  | o :: l => match o.dst with
    | some d => d :: dstsOf l
    | none => dstsOf l

def asg (L : List LSh) : AC → List Nat
  | .reg _ ops _ => dstsOf ops
  | .seq a b => asg L a ++ asg L b
  | .ite _ a b => asg L a ++ asg L b
  | .blk _ a => asg L a
  | .loop m a => asg L a ++ (match L[m.headD 0]? with | some ls => slotsOf ls.sl | none => [])
  | _ => []

def frees : Nat → List Hs
  | 0 => []
  | n + 1 => .free :: frees n

/-- What follows: a result of type X, wrapped as one is asked to. -/
abbrev KT (X : Type) := (Y : Type) → (X → Y) → Ex → St → Option Y

noncomputable def loopK {X : Type} (ls : LSh) (K : KT X) : KT (Lp (Dens ls.ts) X) := fun Z g e S => match e with
  | .normal => match readH ls.sl ls.bl S with
    | some (q, env) => match toD ls.ts env with
      | some d => gdL q (some (g (.go d)))
      | none => none
    | none => none
  | .exit i => K Z (fun x => g (.out x)) (.exit i) S
  | .ret => K Z (fun x => g (.out x)) .ret S

noncomputable def seqK {X : Type} (R : St → KT X → (Y : Type) → (X → Y) → Option Y) (K : KT X) : KT X := fun Y f e S => match e with
  | .normal => R S K Y f
  | .exit i => K Y f (.exit i) S
  | .ret => K Y f .ret S

noncomputable def blkK {X : Type} (id : Nat) (K : KT X) : KT X := fun Y f e S => match e with
  | .normal => K Y f .normal S
  | .exit i => match Nat.beq i id with
    | true => K Y f .normal S
    | false => K Y f (.exit i) S
  | .ret => K Y f .ret S

noncomputable def runO (sp : Spec) (L : List LSh) : AC → {X : Type} → St → KT X → (Y : Type) → (X → Y) → Option Y
  | .skip, _, S, K, Y, f => K Y f .normal S
  | .reg m ops ed, _, S, K, Y, f => match runL sp S.H.length 0 ops ⟨S.T, S.H ++ frees m⟩ with
    | r => match ed with
      | none => gdL r.ob (K Y f .normal r.S)
      | some ms => match chkAll ms [] r.inf with
        | true => gdL r.ob (K Y f .normal r.S)
        | false => none
  | .seq a b, _, S, K, Y, f => runO sp L a S (seqK (fun S' K Y f => runO sp L b S' K Y f) K) Y f
  | .ite c x y, _, S, K, Y, f => match peel (ev S.T c) with
    | (p, v) => match asBool v with
      | some b => gdL p (cond b (runO sp L x S K Y f) (runO sp L y S K Y f))
      | none => none
  | .blk id a, _, S, K, Y, f => runO sp L a S (blkK id K) Y f
  | .exit id, _, S, K, Y, f => K Y f (.exit id) S
  | .ret, _, S, K, Y, f => K Y f .ret S
  | .loop m a, _, S, K, Y, f => match L[m.headD 0]? with
    | some ls => match readH ls.sl ls.bl S with
      | some (p, env0) => match toD ls.ts env0 with
        | some d0 => gdL p (whileO (fun d => runO sp L a (headS (asg L a ++ slotsOf ls.sl) ls.sl ls.bl S (densL ls.ts d)) (loopK ls K) (Lp (Dens ls.ts) Y) (Lp.map f)) d0)
        | none => none
      | none => none
    | none => none

section
variable {sp : Spec} {L : List LSh}

def NatK {X : Type} (K : KT X) : Prop := ∀ (Y : Type) (f : X → Y) e S, K Y f e S = (K X id e S).map f

theorem map_id' {X : Type} {x : Option X} : x.map (fun y => y) = x := by cases x <;> rfl

theorem loopK_nat {X : Type} {ls : LSh} {K : KT X} (hK : NatK K) : NatK (loopK ls K) := fun Z g e S => by
  cases e with
  | normal =>
    simp only [loopK]
    split
    · split
      · rw [gdL_map]; rfl
      · rfl
    · rfl
  | exit i =>
    simp only [loopK]
    rw [hK Z, hK (Lp (Dens ls.ts) X), Option.map_map]; rfl
  | ret =>
    simp only [loopK]
    rw [hK Z, hK (Lp (Dens ls.ts) X), Option.map_map]; rfl

theorem blkK_nat {X : Type} {id : Nat} {K : KT X} (hK : NatK K) : NatK (blkK id K) := fun Z g e S => by
  cases e with
  | normal => exact hK _ _ _ _
  | exit i =>
    simp only [blkK]
    split <;> exact hK _ _ _ _
  | ret => exact hK _ _ _ _

theorem runO_nat : ∀ {ac : AC} {X : Type} {K : KT X} (hK : NatK K) {S : St} {Y : Type} {f : X → Y}, runO sp L ac S K Y f = (runO sp L ac S K X id).map f
  | .skip, X, K, hK, S, Y, f => by simp only [runO]; exact hK _ _ _ _
  | .reg m ops ed, X, K, hK, S, Y, f => by
    cases ed with
    | none => simp only [runO]; rw [gdL_map, hK]
    | some ms =>
      simp only [runO]
      split
      · rw [gdL_map, hK]
      · rfl
  | .seq a b, X, K, hK, S, Y, f => by
    simp only [runO]
    refine runO_nat (fun Y f e S' => ?_)
    cases e with
    | normal => exact runO_nat hK
    | exit i => exact hK _ _ _ _
    | ret => exact hK _ _ _ _
  | .ite c x y, X, K, hK, S, Y, f => by
    simp only [runO]
    split
    · rename_i b hb
      rw [gdL_map]
      congr 1
      cases b
      · exact runO_nat hK
      · exact runO_nat hK
    · rfl
  | .blk id a, X, K, hK, S, Y, f => by
    simp only [runO]
    exact runO_nat (blkK_nat hK)
  | .exit i, X, K, hK, S, Y, f => by simp only [runO]; exact hK _ _ _ _
  | .ret, X, K, hK, S, Y, f => by simp only [runO]; exact hK _ _ _ _
  | .loop m a, X, K, hK, S, Y, f => by
    simp only [runO]
    split
    · rename_i ls hls
      split
      · split
        · rw [gdL_map, ← whileO_map]
          congr 2
          funext d
          rw [runO_nat (loopK_nat hK) (f := Lp.map f), runO_nat (loopK_nat hK) (f := Lp.map id)]
          rw [Option.map_map]
          congr 1
          funext r
          cases r <;> rfl
        · rfl
      · rfl
    · rfl

/-- More may follow. -/
def LeK {X : Type} (K K' : KT X) : Prop := ∀ (Y : Type) (f : X → Y) e S y, K Y f e S = some y → K' Y f e S = some y

theorem loopK_le {X : Type} {ls : LSh} {K K' : KT X} (h : LeK K K') : LeK (loopK ls K) (loopK ls K') := fun Y f e S y hy => by
  cases e with
  | normal => exact hy
  | exit i => exact h _ _ _ _ _ hy
  | ret => exact h _ _ _ _ _ hy

theorem blkK_le {X : Type} {i : Nat} {K K' : KT X} (h : LeK K K') : LeK (blkK i K) (blkK i K') := fun Y f e S y hy => by
  cases e with
  | normal => exact h _ _ _ _ _ hy
  | exit j =>
    simp only [blkK] at hy ⊢
    split at hy <;> exact h _ _ _ _ _ hy
  | ret => exact h _ _ _ _ _ hy

theorem runO_mono : ∀ {ac : AC} {X : Type} {K K' : KT X} (h : LeK K K') {S : St} {Y : Type} {f : X → Y} {y : Y}, runO sp L ac S K Y f = some y → runO sp L ac S K' Y f = some y
  | .skip, X, K, K', h, S, Y, f, y, hr => h _ _ _ _ _ hr
  | .reg m ops ed, X, K, K', h, S, Y, f, y, hr => by
    cases ed with
    | none =>
      simp only [runO, gdL_some] at hr ⊢
      exact ⟨hr.1, h _ _ _ _ _ hr.2⟩
    | some ms =>
      simp only [runO] at hr ⊢
      split at hr
      · rw [gdL_some] at hr ⊢
        exact ⟨hr.1, h _ _ _ _ _ hr.2⟩
      · cases hr
  | .seq a b, X, K, K', h, S, Y, f, y, hr => by
    simp only [runO] at hr ⊢
    refine runO_mono (fun Y f e S' y hy => ?_) hr
    cases e with
    | normal => exact runO_mono h hy
    | exit i => exact h _ _ _ _ _ hy
    | ret => exact h _ _ _ _ _ hy
  | .ite c x z, X, K, K', h, S, Y, f, y, hr => by
    simp only [runO] at hr ⊢
    split at hr
    · rename_i b hb
      rw [gdL_some] at hr ⊢
      refine ⟨hr.1, ?_⟩
      cases b
      · exact runO_mono h hr.2
      · exact runO_mono h hr.2
    · cases hr
  | .blk id a, X, K, K', h, S, Y, f, y, hr => by
    simp only [runO] at hr ⊢
    exact runO_mono (blkK_le h) hr
  | .exit i, X, K, K', h, S, Y, f, y, hr => h _ _ _ _ _ hr
  | .ret, X, K, K', h, S, Y, f, y, hr => h _ _ _ _ _ hr
  | .loop m a, X, K, K', h, S, Y, f, y, hr => by
    simp only [runO] at hr ⊢
    split at hr
    · split at hr
      · split at hr
        · rw [gdL_some] at hr ⊢
          exact ⟨hr.1, whileO_mono (fun d r hd => runO_mono (loopK_le h) hd) hr.2⟩
        · cases hr
      · cases hr
    · cases hr

/-- Slots that are not assigned stay. -/
structure Agr (l : List Nat) (S S' : St) : Prop where
  len : S'.T.length = S.T.length
  get : ∀ n, n ∉ l → S'.T[n]? = S.T[n]?

theorem Agr.refl (l : List Nat) (S : St) : Agr l S S := ⟨rfl, fun _ _ => rfl⟩
theorem Agr.trans {l : List Nat} {S S' S'' : St} (h : Agr l S S') (h' : Agr l S' S'') : Agr l S S'' := ⟨h'.len.trans h.len, fun n hn => (h'.get n hn).trans (h.get n hn)⟩
theorem Agr.mono {l l' : List Nat} {S S' : St} (h : Agr l S S') (hl : ∀ n ∈ l, n ∈ l') : Agr l' S S' := ⟨h.len, fun n hn => h.get n fun hm => hn (hl n hm)⟩

theorem runL_agr {base : Nat} : ∀ {l : List AOp} {i : Nat} {S : St}, Agr (dstsOf l) S (runL sp base i l S).S
  | [], i, S => Agr.refl _ _
  | o :: l, i, S => by
    rw [runL_cons]
    have ih := runL_agr (base := base) (l := l) (i := i + 1) (S := S.step o.dst (geff sp base S.T S.H o))
    have h0 : Agr (dstsOf (o :: l)) S (S.step o.dst (geff sp base S.T S.H o)) := by
      refine ⟨setT_length, fun n hn => ?_⟩
      simp only [St.step, setT_get]
      rw [if_neg]
      intro hd
      apply hn
      simp only [dstsOf, hd]
      exact List.mem_cons_self ..
    refine h0.trans (ih.mono fun n hn => ?_)
    simp only [dstsOf]
    split
    · exact List.mem_cons_of_mem _ hn
    · exact hn

theorem instS_other {nm lens : List Nat} : ∀ {sl : List (Nat × TV)} {env T : List AV} {n : Nat}, n ∉ slotsOf sl → (instS nm lens sl env T)[n]? = T[n]?
  | [], _, _, _, _ => rfl
  | (m, tv) :: sl, env, T, n, h => by
    simp only [slotsOf, List.mem_cons, not_or] at h
    simp only [instS]
    rw [instS_other h.2, List.getElem?_set_ne (Ne.symm h.1)]

theorem head_agr {l : List Nat} {sl : List (Nat × TV)} {bl : List TB} {S : St} {env : List AV} : Agr (l ++ slotsOf sl) S (headS (l ++ slotsOf sl) sl bl S env) := by
  refine ⟨by simp only [headS, headT]; rw [instS_length, forget_length], fun n hn => ?_⟩
  simp only [headS, headT]
  rw [instS_other (fun h => hn (List.mem_append_right _ h)), forget_get, if_neg hn]


noncomputable def agrK {X : Type} (l : List Nat) (S : St) (K : KT X) : KT X := fun Y f e S' => gd (Agr l S S') (K Y f e S')

theorem runO_agr : ∀ {ac : AC} {X : Type} {K : KT X} {S : St} {Y : Type} {f : X → Y} {y : Y}, runO sp L ac S K Y f = some y → runO sp L ac S (agrK (asg L ac) S K) Y f = some y
  | .skip, X, K, S, Y, f, y, hr => gd_some.2 ⟨Agr.refl _ _, hr⟩
  | .reg m ops ed, X, K, S, Y, f, y, hr => by
    have hag : Agr (asg L (.reg m ops ed)) S (runL sp S.H.length 0 ops ⟨S.T, S.H ++ frees m⟩).S := by
      have := runL_agr (sp := sp) (base := S.H.length) (l := ops) (i := 0) (S := ⟨S.T, S.H ++ frees m⟩)
      exact ⟨this.len, this.get⟩
    cases ed with
    | none =>
      simp only [runO, gdL_some] at hr ⊢
      exact ⟨hr.1, gd_some.2 ⟨hag, hr.2⟩⟩
    | some ms =>
      simp only [runO] at hr ⊢
      split at hr
      · rw [gdL_some] at hr ⊢
        exact ⟨hr.1, gd_some.2 ⟨hag, hr.2⟩⟩
      · cases hr
  | .seq a b, X, K, S, Y, f, y, hr => by
    simp only [runO] at hr ⊢
    refine runO_mono (fun Y f e S' y hy => ?_) (runO_agr hr)
    obtain ⟨hag, hy⟩ := gd_some.1 hy
    cases e with
    | normal =>
      simp only [seqK] at hy ⊢
      refine runO_mono (fun Y f e' S'' y he' => ?_) (runO_agr hy)
      obtain ⟨h1, h2⟩ := gd_some.1 he'
      exact gd_some.2 ⟨(hag.mono fun n hn => List.mem_append_left _ hn).trans (h1.mono fun n hn => List.mem_append_right _ hn), h2⟩
    | exit i => exact gd_some.2 ⟨hag.mono fun n hn => List.mem_append_left _ hn, hy⟩
    | ret => exact gd_some.2 ⟨hag.mono fun n hn => List.mem_append_left _ hn, hy⟩
  | .ite c x z, X, K, S, Y, f, y, hr => by
    simp only [runO] at hr ⊢
    split at hr
    · rename_i b hb
      rw [gdL_some] at hr ⊢
      refine ⟨hr.1, ?_⟩
      have le1 : LeK (agrK (asg L x) S K) (agrK (asg L (.ite c x z)) S K) := fun Y f e S' y h => by
        obtain ⟨h1, h2⟩ := gd_some.1 h
        exact gd_some.2 ⟨h1.mono fun n hn => List.mem_append_left _ hn, h2⟩
      have le2 : LeK (agrK (asg L z) S K) (agrK (asg L (.ite c x z)) S K) := fun Y f e S' y h => by
        obtain ⟨h1, h2⟩ := gd_some.1 h
        exact gd_some.2 ⟨h1.mono fun n hn => List.mem_append_right _ hn, h2⟩
      cases b
      · exact runO_mono le2 (runO_agr hr.2)
      · exact runO_mono le1 (runO_agr hr.2)
    · cases hr
  | .blk id a, X, K, S, Y, f, y, hr => by
    simp only [runO] at hr ⊢
    refine runO_mono (fun Y f e S' y hy => ?_) (runO_agr hr)
    obtain ⟨hag, hy⟩ := gd_some.1 hy
    cases e with
    | normal => exact gd_some.2 ⟨hag, hy⟩
    | exit i =>
      simp only [blkK] at hy ⊢
      split at hy <;> exact gd_some.2 ⟨hag, hy⟩
    | ret => exact gd_some.2 ⟨hag, hy⟩
  | .exit i, X, K, S, Y, f, y, hr => gd_some.2 ⟨Agr.refl _ _, hr⟩
  | .ret, X, K, S, Y, f, y, hr => gd_some.2 ⟨Agr.refl _ _, hr⟩
  | .loop m a, X, K, S, Y, f, y, hr => by
    simp only [runO] at hr ⊢
    split at hr
    · rename_i ls hls
      split at hr
      · split at hr
        · rw [gdL_some] at hr ⊢
          refine ⟨hr.1, whileO_mono (fun d r hd => ?_) hr.2⟩
          refine runO_mono (fun Y f e S' y hy => ?_) (runO_agr hd)
          obtain ⟨hag, hy⟩ := gd_some.1 hy
          have hag' : Agr (asg L (.loop m a)) S S' := by
            simp only [asg, hls]
            exact head_agr.trans (hag.mono fun n hn => List.mem_append_left _ hn)
          cases e with
          | normal => exact hy
          | exit i => exact gd_some.2 ⟨hag', hy⟩
          | ret => exact gd_some.2 ⟨hag', hy⟩
        · cases hr
      · cases hr
    · cases hr

end

/-! ### Soundness -/
theorem wp_loopN {P : Program} {Q : Exit → Act → World → Prop} {a : Act} {w : World} {c : Code} (I : Nat → Act → World → Prop) (h₀ : ∃ n, I n a w)
    (round : ∀ n a w, I n a w → c.wp P (Exit.then (fun a' w' => ∃ m, m < n ∧ I m a' w') Q) a w) : (Code.loop c).wp P Q a w := by
  intro b k cs
  have key : ∀ n a w, I n a w →
      ∃ e a' w', Q e a' w' ∧ Arrives P (lone (b.at a (.code c :: .inLoop c :: k)) cs w) b k cs e a' w' := by
    intro n
    induction n using Nat.strongRecOn with
    | _ n ih =>
      intro a w hI
      obtain ⟨e, a₁, w₁, hq, harr⟩ := round n a w hI b (.inLoop c :: k) cs
      cases e with
      | normal =>
        obtain ⟨m, hlt, hI₁⟩ := hq
        obtain ⟨e₂, a₂, w₂, hq₂, harr₂⟩ := ih m hlt a₁ w₁ hI₁
        exact ⟨e₂, a₂, w₂, hq₂, .of_steps (Steps.trans harr (.one step_inLoop)) harr₂⟩
      | exit id => exact ⟨_, a₁, w₁, hq, .pass (x := .inLoop c) rfl (fun _ _ => .inl (by simp)) harr⟩
      | goto l => exact ⟨_, a₁, w₁, hq, .pass (x := .inLoop c) rfl (fun _ _ => .inl (by simp)) harr⟩
      | ret => exact ⟨_, a₁, w₁, hq, .pass (x := .inLoop c) rfl (fun _ _ => .inl (by simp)) harr⟩
      | panic ch => exact ⟨_, a₁, w₁, hq, .pass (x := .inLoop c) rfl (fun _ _ => .inl (by simp)) harr⟩
      | outgrown => exact ⟨_, a₁, w₁, hq, .pass (x := .inLoop c) rfl (fun _ _ => .inl (by simp)) harr⟩
  obtain ⟨n, h₀⟩ := h₀
  obtain ⟨e, a', w', hq, harr⟩ := key n a w h₀
  exact ⟨e, a', w', hq, .of_steps (.one step_loop) harr⟩

def QK (Γ0 : Cx) (H0 : List Hs) (w0 : World) (K : Ex → St → Prop) : Exit → Act → World → Prop := fun e a w =>
  ∃ Γ S, Emb Γ S a w ∧ Ext Γ0 H0 w0 Γ S.H w ∧ (match e with
    | .normal => K .normal S
    | .exit i => K (.exit i) S
    | .ret => K .ret S
    | _ => False)

theorem frees_get : ∀ {m b : Nat} {x : Hs}, (frees m)[b]? = some x → x = .free
  | 0, _, _, h => by simp [frees] at h
  | m + 1, 0, x, h => by simp only [frees, List.getElem?_cons_zero, Option.some.injEq] at h; exact h.symm
  | m + 1, b + 1, x, h => by simp only [frees, List.getElem?_cons_succ] at h; exact frees_get h

theorem get_frees {H : List Hs} {m b : Nat} {x : Hs} (h : (H ++ frees m)[b]? = some x) : H[b]? = some x ∨ x = .free := by
  rcases Nat.lt_or_ge b H.length with hlt | hge
  · rw [List.getElem?_append_left hlt] at h; exact .inl h
  · rw [List.getElem?_append_right hge] at h; exact .inr (frees_get h)

theorem frees_old {H : List Hs} {m b : Nat} {x : Hs} (h : H[b]? = some x) : (H ++ frees m)[b]? = some x := by
  rw [List.getElem?_append_left (lt_of_get h)]; exact h

section
variable {P : Program} {sp : Spec} {L : List LSh} {Γ : Cx} {S : St} {a : Act} {w : World}

theorem live_frees {H : List Hs} {m b : Nat} (h : Live (H ++ frees m) b) : Live H b := by
  obtain ⟨B, hB⟩ := h
  rcases get_frees hB with h | h
  · exact ⟨B, h⟩
  · cases h

theorem Emb.frees (em : Emb Γ S a w) (m : Nat) : Emb Γ ⟨S.T, S.H ++ frees m⟩ a w ∧ Ext Γ S.H w Γ (S.H ++ Ab.frees m) w := by
  refine ⟨⟨em.defers, em.size, em.tmp, ⟨fun b B hB => ?_, fun b b' h h' => em.heap.inj b b' (live_frees h) (live_frees h'), fun b h => em.heap.imm b (live_frees h), em.heap.old, fun b => ?_⟩⟩, ?_⟩
  · rcases get_frees hB with h | h
    · exact em.heap.blk b B h
    · cases h
  · rw [em.heap.al b]
    constructor
    · rintro ⟨x, hx, hn⟩; exact ⟨x, frees_old hx, hn⟩
    · rintro ⟨x, hx, hn⟩
      rcases get_frees hx with h | h
      · exact ⟨x, h, hn⟩
      · exact absurd h hn
  · exact ⟨fun _ _ _ => rfl, Nat.le_refl _, rfl, rfl, fun n ⟨b, hb, hk, he⟩ => .inl ⟨b, live_frees hb, hk, he⟩, fun _ h => .inl h, fun _ h => h, fun _ h => ⟨h, rfl, rfl⟩⟩

theorem Emb.drawn (em : Emb Γ S a w) : Emb Γ S a { w with drawn := w.drawn + 1 } ∧ Ext Γ S.H w Γ S.H { w with drawn := w.drawn + 1 } := by
  have hx : Ext Γ S.H w Γ S.H { w with drawn := w.drawn + 1 } := ⟨fun _ _ _ => rfl, Nat.le_refl _, rfl, rfl, fun n h => .inl h, fun _ h => .inl h, fun _ h => h, fun _ h => ⟨h, rfl, rfl⟩⟩
  have hR : ∀ b B, S.H[b]? = some (.live B) → RepB { w with drawn := w.drawn + 1 } Γ b B := fun b B hB =>
    RepB.mono (w := w) (w' := { w with drawn := w.drawn + 1 }) (fun _ h => h) (fun _ _ => rfl) (fun _ h => ⟨h, rfl, rfl⟩) (em.heap.alive ⟨B, hB⟩) (fun _ => rfl) (em.heap.blk b B hB)
  refine ⟨⟨em.defers, em.size, fun i x hx' => ?_, ⟨fun b B hB => hR b B hB, em.heap.inj, em.heap.imm, em.heap.old, em.heap.al⟩⟩, hx⟩
  obtain ⟨v, h1, h2⟩ := em.tmp i x hx'
  exact ⟨v, h1, Rp.mono (w := w) (w' := { w with drawn := w.drawn + 1 }) (fun _ h => h) (fun _ _ => rfl) (fun _ h => ⟨h, rfl, rfl⟩) x _ h2⟩

end
end Go.Ab
