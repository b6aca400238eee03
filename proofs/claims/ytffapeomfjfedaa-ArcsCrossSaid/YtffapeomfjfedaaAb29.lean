/- Contracts of functions: typed data in, typed data out. -/
import Derived.Test.YtffapeomfjfedaaAb28
set_option linter.unusedVariables false
set_option linter.unusedSimpArgs false
namespace Go.Ab
universe u

/-- The shape of an argument: data of a type, or a function literal with captured data. -/
inductive AT where
  | d (t : Ty)
  | fn (g : FuncId) (caps : List Ty)

def AT.ts : AT → List Ty
  | .d t => [t]
  | .fn _ caps => caps

def tsA : List AT → List Ty
  | [] => []
  | x :: l => x.ts ++ tsA l

/-- Functions of several typed arguments. -/
def Cur : List Ty → Type u → Type u
  | [], R => R
  | t :: ts, R => Den t → Cur ts R

def appC {R : Type u} : (ts : List Ty) → Cur ts R → List AV → Option R
  | [], f, _ => some f
  | t :: ts, f, x :: xs => match asD t x with
    | some y => appC ts (f y) xs
    | none => none
  | _ :: _, _, [] => none

def allD : List Ty → (List AV → Prop) → Prop
  | [], K => K []
  | t :: ts, K => ∀ x : Den t, allD ts fun l => K (.val t x :: l)

theorem allD_elim : ∀ {ts : List Ty} {K : List AV → Prop} {env : List AV}, allD ts K → EnvOk ts env → K env
  | [], K, [], h, _ => h
  | t :: ts, K, x :: xs, h, he => by
    obtain ⟨⟨y, rfl⟩, he⟩ := he
    exact allD_elim (K := fun l => K (.val t y :: l)) (h y) he
  | [], _, _ :: _, _, he => he.elim
  | _ :: _, _, [], _, he => he.elim

def resAV : (rs : List Ty) → Dens rs → AV
  | [t], x => .val t x.1
  | rs, x => .tup (toAV (densL rs x))

def argsAV : List AT → List AV → List AV
  | [], _ => []
  | .d _ :: l, env => env.headD .undef :: argsAV l env.tail
  | .fn g caps :: l, env => .fn g (toAV (env.take caps.length)) :: argsAV l (env.drop caps.length)

structure Con where
  f : FuncId
  ats : List AT
  rs : List Ty
  pre : List AV → Option (List Prop)
  F : List AV → Option (Dens rs)

/-- That a function keeps its contract. -/
def Con.Ok (P : Program) (c : Con) : Prop := callable P c.f = true ∧
  ∀ (Γ : Cx) (w : World) (env : List AV) (p : List Prop) (r : Dens c.rs) (vs : List Value), (∀ b, ¬ Γ.A b) → EmbH Γ [] w → EnvOk (tsA c.ats) env → c.pre env = some p → c.F env = some r → allP p → Fa w Γ (argsAV c.ats env) vs →
    Calls P c.f vs.toArray w fun en w' => ∃ v Γ', en = .returned v ∧ Ext Γ [] w Γ' [] w' ∧ EmbH Γ' [] w' ∧ Ra w' Γ' (resAV c.rs r) v

/-! ### A call, seen from the caller -/
def resD (H : List Hs) : List Ty → List AV → Option (List Prop × List AV)
  | [], [] => some ([], [])
  | t :: ts, x :: xs => match rvV H t x, resD H ts xs with
    | some (p, y), some (q, l) => some (p ++ q, .val t y :: l)
    | _, _ => none
  | _, _ => none

def resA (H : List Hs) : List AT → List AV → Option (List Prop × List AV)
  | [], [] => some ([], [])
  | .d t :: l, x :: xs => match rvV H t x, resA H l xs with
    | some (p, y), some (q, r) => some (p ++ q, .val t y :: r)
    | _, _ => none
  | .fn g caps :: l, .fn g' cs :: xs => if Nat.beq g g' = true ∧ isL cs = true then match resD H caps (ofAV cs), resA H l xs with
      | some (p, ys), some (q, r) => some (p ++ q, ys ++ r)
      | _, _ => none
    else none
  | _, _ => none

def flats : List Ty → Bool
  | [] => true
  | t :: ts => flat t && flats ts

def Con.eff (c : Con) (H : List Hs) (args : List AV) : Option Ef :=
  match resA [] c.ats args with
  | some (p, env) => match c.pre env, c.F env with
    | some q, some r => some ⟨p ++ q, resAV c.rs r, [], []⟩
    | _, _ => none
  | none => match flats c.rs with
    | true => match resA H c.ats args with
      | some (p, env) => match c.pre env, c.F env with
        | some q, some r => some ⟨p ++ q, resAV c.rs r, [], liveFrom 0 H⟩
        | _, _ => none
      | none => none
    | false => none

/-- Whether arguments have the shape that a contract wants. -/
def fits : List AT → List AV → Bool
  | [], [] => true
  | .d _ :: l, _ :: xs => fits l xs
  | .fn g _ :: l, .fn g' _ :: xs => Nat.beq g g' && fits l xs
  | _, _ => false

def spOf : List Con → Spec
  | [], _, _, _, _ => .fail
  | c :: cs, f, H, base, args => match Nat.beq c.f f && fits c.ats args with
    | true => match c.eff H args with
      | some e => e
      | none => .fail
    | false => spOf cs f H base args

section
variable {w : World} {Γ : Cx} {H : List Hs}

theorem resD_sound (em : BlkOk Γ H w) : ∀ {ts : List Ty} {xs : List AV} {p : List Prop} {env : List AV} {vs : List Value}, resD H ts xs = some (p, env) → allP p → Fa w Γ xs vs → EnvOk ts env ∧ Fa w (Γ.freeze H) env vs
  | [], [], p, env, vs, h, _, hf => by
    simp only [resD, Option.some.injEq, Prod.mk.injEq] at h
    obtain ⟨_, rfl⟩ := h
    cases vs with
    | nil => exact ⟨trivial, trivial⟩
    | cons => exact hf.elim
  | t :: ts, x :: xs, p, env, vs, h, hp, hf => by
    simp only [resD] at h
    split at h
    · rename_i p1 y q l h1 h2
      cases h
      obtain ⟨hp1, hp2⟩ := allP_app.1 hp
      cases vs with
      | nil => exact hf.elim
      | cons v vs =>
        obtain ⟨k1, k2⟩ := resD_sound em h2 hp2 hf.2
        exact ⟨⟨⟨y, rfl⟩, k1⟩, Ra_val.2 (rvV_sound em h1 hp1 hf.1), k2⟩
    · cases h
  | [], _ :: _, _, _, _, h, _, _ => by simp [resD] at h
  | _ :: _, [], _, _, _, h, _, _ => by simp [resD] at h

theorem resA_sound (em : BlkOk Γ H w) : ∀ {ats : List AT} {xs : List AV} {p : List Prop} {env : List AV} {vs : List Value}, resA H ats xs = some (p, env) → allP p → Fa w Γ xs vs → EnvOk (tsA ats) env ∧ Fa w (Γ.freeze H) (argsAV ats env) vs
  | [], [], p, env, vs, h, _, hf => by
    simp only [resA, Option.some.injEq, Prod.mk.injEq] at h
    obtain ⟨_, rfl⟩ := h
    cases vs with
    | nil => exact ⟨trivial, trivial⟩
    | cons => exact hf.elim
  | .d t :: l, x :: xs, p, env, vs, h, hp, hf => by
    simp only [resA] at h
    split at h
    · rename_i p1 y q r h1 h2
      cases h
      obtain ⟨hp1, hp2⟩ := allP_app.1 hp
      cases vs with
      | nil => exact hf.elim
      | cons v vs =>
        obtain ⟨k1, k2⟩ := resA_sound em h2 hp2 hf.2
        exact ⟨⟨⟨y, rfl⟩, k1⟩, Ra_val.2 (rvV_sound em h1 hp1 hf.1), k2⟩
    · cases h
  | .fn g caps :: l, x :: xs, p, env, vs, h, hp, hf => by
    cases x with
    | fn g' cs =>
      simp only [resA] at h
      split at h
      · rename_i hh
        obtain ⟨hg, hl⟩ := hh
        have hg : g = g' := by simpa using hg
        subst hg
        split at h
        · rename_i p1 ys q r h1 h2
          cases h
          obtain ⟨hp1, hp2⟩ := allP_app.1 hp
          cases vs with
          | nil => exact hf.elim
          | cons v vs =>
            obtain ⟨k1, k2⟩ := resA_sound em h2 hp2 hf.2
            have hx := hf.1
            simp only [Ra, Rp, List.cons.injEq, and_true] at hx
            obtain ⟨us, hv, hr⟩ := hx
            obtain ⟨m1, m2⟩ := resD_sound em h1 hp1 (isL_sound hl hr)
            refine ⟨m1.app k1, ?_⟩
            have hlen : ys.length = caps.length := m1.length
            simp only [argsAV]
            rw [← hlen, List.take_left', List.drop_left']
            · refine ⟨?_, k2⟩
              simp only [Ra, Rp, List.cons.injEq, and_true]
              exact ⟨us, hv, Rp_toAV.2 m2⟩
            · rfl
            · rfl
        · cases h
      · cases h
    | _ => simp [resA] at h
  | [], _ :: _, _, _, _, h, _, _ => by simp [resA] at h
  | .d _ :: _, [], _, _, _, h, _, _ => by simp [resA] at h
  | .fn _ _ :: _, [], _, _, _, h, _, _ => by simp [resA] at h

/-- Data without addresses means the same anywhere. -/
theorem flat_any {w w' : World} {I I' : Nat → Prop} : ∀ {t : Ty} {x : Den t} {cs : List Value}, flat t = true → RepC w I t x cs → RepC w' I' t x cs
  | .int k, x, cs, _, h => by simpa only [RepC] using h
  | .bool, x, cs, _, h => by simpa only [RepC] using h
  | .unit, x, cs, _, h => by simpa only [RepC] using h
  | .prod a b, x, cs, hf, h => by
    simp only [flat, Bool.and_eq_true] at hf
    simp only [RepC] at h ⊢
    obtain ⟨c1, c2, e, h1, h2⟩ := h
    exact ⟨c1, c2, e, flat_any hf.1 h1, flat_any hf.2 h2⟩
  | .slice _, _, _, hf, _ => by cases hf
  | .ptr _, _, _, hf, _ => by cases hf
  | .optr _, _, _, hf, _ => by cases hf
  | .map _ _, _, _, hf, _ => by cases hf
  | .oth, _, _, hf, _ => by cases hf

theorem flat_val {w w' : World} {Γ Γ' : Cx} {t : Ty} {x : Den t} {v : Value} (hf : flat t = true) (h : Ra w Γ (.val t x) v) : Ra w' Γ' (.val t x) v := by
  obtain ⟨cs, h1, h2⟩ := Ra_val.1 h
  exact Ra_val.2 ⟨cs, flat_any hf h1, h2⟩

theorem flat_list {w w' : World} {Γ Γ' : Cx} : ∀ {ts : List Ty} {x : Dens ts} {vs : List Value}, flats ts = true → Rp w Γ (toAV (densL ts x)) vs → Rp w' Γ' (toAV (densL ts x)) vs
  | [], x, vs, _, h => by simpa only [densL, toAV, Rp] using h
  | t :: ts, x, vs, hf, h => by
    simp only [flats, Bool.and_eq_true] at hf
    simp only [densL, toAV, Rp] at h ⊢
    obtain ⟨v, us, e, h1, h2⟩ := h
    refine ⟨v, us, e, ?_, flat_list hf.2 h2⟩
    have := flat_val (w' := w') (Γ' := Γ') hf.1 (show Ra w Γ (.val t x.1) v by simp only [Ra, Rp]; exact h1)
    simpa only [Ra, Rp] using this

theorem flat_res {w w' : World} {Γ Γ' : Cx} {rs : List Ty} {r : Dens rs} {v : Value} (hf : flats rs = true) (h : Ra w Γ (resAV rs r) v) : Ra w' Γ' (resAV rs r) v := by
  match rs, r, h with
  | [], r, h =>
    simp only [resAV, Ra, Rp, List.cons.injEq, and_true] at h ⊢
    obtain ⟨us, e, h⟩ := h
    exact ⟨us, e, flat_list (ts := []) (by rfl) h⟩
  | [t], r, h =>
    simp only [flats, Bool.and_true] at hf
    exact flat_val hf h
  | t :: u :: ts, r, h =>
    simp only [resAV, Ra, Rp, List.cons.injEq, and_true] at h ⊢
    obtain ⟨us, e, h⟩ := h
    exact ⟨us, e, flat_list hf h⟩

end
end Go.Ab
