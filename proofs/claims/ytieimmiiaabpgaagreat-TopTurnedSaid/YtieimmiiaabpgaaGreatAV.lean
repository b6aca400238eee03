/- Printed functions,reckoned: conditions that can be. -/
import Derived.Test.YtieimmiiaabpgaaGreatAR
set_option linter.unusedVariables false
set_option linter.unusedSimpArgs false
namespace Go.Ab
def gdD {X:Type} (p:Prop) [Decidable p] (x:Option X):Option X:=if p then x else none
def eqOD {X:Type} [DecidableEq X] (P:Prop) [Decidable P] (a b:Option X):Option X:=match b with
 | some r=>if P then (if a=some r then some r else none) else some r
 | none=>none
def q7i {S X:Type} (n:Nat) (step:S→Option (Lp S X)) (s:S):Option X:=qco step n s
def LeO {X:Type} (a b:Option X):Prop:=∀ x,a=some x→b=some x
deriving instance DecidableEq for Lp
section
variable {S X Y:Type}
theorem qae {a:Option X}:LeO a a:=fun _ h=>h
theorem zed {p:Prop} [Decidable p] {a b:Option X} (h:LeO a b):LeO (gdD p a) (gd p b):=fun x hx=>by
 unfold gdD at hx;split at hx
 ·rename_i hp;rw [q62 hp];exact h x hx
 ·cases hx
theorem qad {c:Bool} {a a' b b':Option X} (h:LeO a a') (h':LeO b b'):LeO (cond c a b) (cond c a' b'):=by
 cases c
 ·exact h'
 ·exact h
theorem qai {f:X→Y} {a b:Option X} (h:LeO a b):LeO (a.map f) (b.map f):=fun x hx=>by
 cases a with
 | none=>cases hx
 | some y=>rw [h y rfl];exact hx
theorem q8o [DecidableEq X] {P:Prop} [Decidable P] {a a' b b':Option X} (h:LeO a a') (h':LeO b b'):LeO (eqOD P a b) (eqO P a' b'):=fun x hx=>by
 rw [qh3];unfold eqOD at hx
 cases b with
 | none=>cases hx
 | some r =>
  simp only at hx;split at hx
  ·rename_i hP;split at hx
   ·rename_i e;cases hx;exact ⟨h' _ rfl,fun _=>h _ e⟩
   ·cases hx
  ·rename_i hP;cases hx;exact ⟨h' _ rfl,fun h=>absurd h hP⟩
theorem qqc {st st':S→Option (Lp S X)} (h:∀ s,LeO (st s) (st' s)):∀ {n:Nat} {s:S},LeO (qco st n s) (qgk st' s)
 | 0,_=>fun x hx=>by cases hx
 | n+1,s=>fun x hx=>by
  rw [q3h];rw [qco] at hx
  cases hs:st s with
  | none=>rw [hs] at hx;cases hx
  | some l =>
   rw [hs] at hx;rw [h s l hs]
   cases l with
   | go s'=>exact qqc h x hx
   | out y=>exact hx
theorem q2o {st st':S→Option (Lp S X)} {n:Nat} {s:S} (h:∀ s,LeO (st s) (st' s)):LeO (q7i n st s) (qgk st' s):=qqc h
end
def getO {X:Type} [Inhabited X] (o:Option X):X:=match o with
 | some x=>x
 | none=>default
def okO {X:Type} (o:Option X):Prop:=o.isSome=true
instance {X:Type} (o:Option X):Decidable (okO o):=match o with
 | some _=>isTrue rfl
 | none=>isFalse (fun h=>nomatch h)
theorem q0f {X:Type} [Inhabited X] {o:Option X} (h:okO o):o=some (getO o):=match o,h with
 | some _,_=>rfl
theorem qaq {X:Type} [Inhabited X] {h g:Option X} (hle:LeO h g) (ok:okO h):g=some (getO h):=hle _ (q0f ok)
structure Rk where
 gd:{X:Type}→(p:Prop)→[Decidable p]→Option X→Option X
 wh:{S X:Type}→(S→Option (Lp S X))→S→Option X
 eq:{X:Type}→[DecidableEq X]→(p:Prop)→[Decidable p]→Option X→Option X→Option X
noncomputable def rkO:Rk:=⟨fun p _ x=>Go.Ab.gd p x,fun st s=>qgk st s,fun p _ a b=>eqO p a b⟩
def rkF (n:Nat):Rk:=⟨fun p _ x=>gdD p x,fun st s=>q7i n st s,fun p _ a b=>eqOD p a b⟩
section
variable {X S:Type} {n:Nat}
theorem qam {p:Prop} [Decidable p] {a b:Option X} (h:LeO a b):LeO ((rkF n).gd p a) (rkO.gd p b):=zed h
theorem qan {st st':S→Option (Lp S X)} {s:S} (h:∀ s,LeO (st s) (st' s)):LeO ((rkF n).wh st s) (rkO.wh st' s):=q2o h
theorem qao [DecidableEq X] {p:Prop} [Decidable p] {a a' b b':Option X} (h:LeO a a') (h':LeO b b'):LeO ((rkF n).eq p a b) (rkO.eq p a' b'):=q8o h h'
end
end Go.Ab
