/- The compact operations (AO) and what they do to abstract states (aeff): a result, conditions under which it is right, and the blocks that are read and written. All of it is meant to be reckoned by the kernel. -/
import Derived.Test.YtffapeomfjfedaaAb1
namespace Go.Ab
noncomputable section

/-! ### Parts of pure data -/

def arrT : Nat → Ty → Ty
  | 0, _ => .unit
  | n + 1, t => .prod t (arrT n t)

def castD (t t' : Ty) (x : Den t) : Option (Den t') := if h : t = t' then some (h ▸ x) else none

def castL (t t' : Ty) (xs : List (Den t)) : Option (List (Den t')) := castD (.slice t) (.slice t') xs

/-- The part of type te that begins at a cell. -/
def sub : (T : Ty) → Nat → (te : Ty) → Den T → Option (Den te)
  | .prod a b, off, te, x =>
    if Ty.prod a b = te ∧ off = 0 then castD (.prod a b) te x
    else if off < sz a then sub a off te x.1 else sub b (off - sz a) te x.2
  | T, off, te, x => if off = 0 then castD T te x else none

def arrGet : (n : Nat) → (te : Ty) → Den (arrT n te) → Nat → Den te
  | 0, te, _, _ => dflt te
  | _ + 1, _, x, 0 => x.1
  | n + 1, te, x, i + 1 => arrGet n te x.2 i

def arrList : (n : Nat) → (te : Ty) → Den (arrT n te) → List (Den te)
  | 0, _, _ => []
  | n + 1, te, x => x.1 :: arrList n te x.2

def homog (s : Ty) : Ty → Bool
  | .unit => true
  | .prod a b => homog s a && homog s b
  | t => decide (t = s)

def leafOf : Ty → Option Ty
  | .unit => none
  | .prod a b => match leafOf a with | some s => some s | none => leafOf b
  | t => some t

def flatS (s : Ty) : (t : Ty) → Den t → List (Den s)
  | .unit, _ => []
  | .prod a b, x => flatS s a x.1 ++ flatS s b x.2
  | t, x => match castD t s x with | some y => [y] | none => []

def unflatAt (s : Ty) : (t : Ty) → List (Den s) → Nat → Den t
  | .unit, _, _ => ()
  | .prod a b, xs, i => (unflatAt s a xs i, unflatAt s b xs (i + sz a))
  | t, xs, i => (castD s t (xs.getD i (dflt s))).getD (dflt t)

def flatA : (t : Ty) → Den t → List AV
  | .unit, _ => []
  | .prod a b, x => flatA a x.1 ++ flatA b x.2
  | t, x => [.val t x]

/-- One cell of a scalar type. -/
def ofCell (t : Ty) : AV → Option (Den t)
  | .val t' x => castD t' t x
  | .vsl t' xs _ => castD (.slice t') t xs
  | _ => none

/-- Pure data out of cells that are known as such. -/
def ofCells : (t : Ty) → List AV → Option (Den t)
  | .unit, cs => match cs with
    | [] => some ()
    | _ => none
  | .prod a b, cs => match ofCells a (cs.take (sz a)), ofCells b (cs.drop (sz a)) with
    | some x, some y => some (x, y)
    | _, _ => none
  | t, cs => match cs with
    | [v] => ofCell t v
    | _ => none

/-! ### Arithmetic of int kinds, behind names -/
def wr (k : IntKind) (n : Int) : Int := k.wrap n
def ishl (k : IntKind) (x y : Int) : Int := k.wrap (x * 2 ^ (min y.toNat k.bits))
def ishr (k : IntKind) (x y : Int) : Int := x.fdiv (2 ^ (min y.toNat k.bits))
def iand (k : IntKind) (x y : Int) : Int := k.wrap (BitVec.ofInt k.bits x &&& BitVec.ofInt k.bits y).toNat
def ior (k : IntKind) (x y : Int) : Int := k.wrap (BitVec.ofInt k.bits x ||| BitVec.ofInt k.bits y).toNat
def ixor (k : IntKind) (x y : Int) : Int := k.wrap (BitVec.ofInt k.bits x ^^^ BitVec.ofInt k.bits y).toNat
def iandn (k : IntKind) (x y : Int) : Int := k.wrap (BitVec.ofInt k.bits x &&& ~~~ BitVec.ofInt k.bits y).toNat
def ilt (x y : Int) : Bool := decide (x < y)
def ile (x y : Int) : Bool := decide (x ≤ y)
def ieq (x y : Int) : Bool := x == y
def beqB (x y : Bool) : Bool := x == y
def imin (x y : Int) : Int := if y < x then y else x
def imax (x y : Int) : Int := if x < y then y else x


def deq : (t : Ty) → Den t → Den t → Bool
  | .int _, x, y => ieq x y
  | .bool, x, y => beqB x y
  | .unit, _, _ => true
  | .prod a b, x, y => deq a x.1 y.1 && deq b x.2 y.2
  | _, _, _ => false

def eqable : Ty → Bool
  | .int _ | .bool | .unit => true
  | .prod a b => eqable a && eqable b
  | _ => false

/-- Holds no address. -/
def flat : Ty → Bool
  | .int _ | .bool | .unit => true
  | .prod a b => flat a && flat b
  | _ => false

def toAV : List AV → AV
  | [] => .nil
  | a :: l => .cons a (toAV l)

/-- A list of abstract values that ends as one. -/
def isL : AV → Bool
  | .nil => true
  | .cons _ l => isL l
  | _ => false

def ofAV : AV → List AV
  | .cons a l => a :: ofAV l
  | _ => []

inductive BOp where
  | add | sub | mul | quo | rem | and | or | xor | andn | shl | shr | eq | ne | lt | le | gt | ge
  deriving DecidableEq

/-! ### Operations -/
inductive Od where
  | t (n : Nat)
  | k (a : AV)

inductive AO where
  | mv (x : Od)
  | pick (c a b : Od)
  | bin (op : BOp) (x y : Od)
  | eqv (neg : Bool) (t : Ty) (x y : Od)
  | not (x : Od)
  | neg (x : Od)
  | build (t : Ty) (z : List AV) (parts : List (Nat × Ty × Od))
  | load (t : Ty) (x : Od)
  | store (t : Ty) (x v : Od)
  | alloc (k : Nat) (B : Blk)
  | box (k : Nat) (t : Ty) (x : Od)
  | nilc (x : Od)
  | fld (off : Nat) (te : Ty) (x : Od)
  | fldv (off : Nat) (te : Ty) (x : Od)
  | ixs (te : Ty) (x i : Od)
  | ixa (n : Nat) (te : Ty) (x i : Od)
  | ixv (n : Nat) (te : Ty) (x i : Od)
  | slc (te : Ty) (x : Od) (lo hi mx : Option Od)
  | sla (n : Nat) (te : Ty) (x : Od) (lo hi : Option Od)
  | ext (x : Od) (i : Nat)
  | call (f : FuncId) (args : List Od)
  | callv (g : Od) (args : List Od)
  | len (x : Od)
  | mm (mx : Bool) (x : Od) (xs : List Od)
  | conv (k : IntKind) (x : Od)
  | mkfn (f : FuncId) (caps : List Od)
  | bslice (te : Ty) (parts : List Od)
  | bslicem (k : Nat) (te : Ty) (parts : List Od)
  | append (k : Nat) (te : Ty) (bytes : Nat) (x y : Od)
  | lookup (kt vt : Ty) (d : Den vt) (x i : Od) (ok : Bool)
  | mapup (kt vt : Ty) (m key v : Od)
  | mkmap (k : Nat) (kt vt : Ty)
  | mkslice (k : Nat) (te : Ty) (z : Den te) (bytes : Nat) (n c : Od)

structure AOp where
  dst : Option Nat
  op : AO
  g : Option (Nat × Bool)

/-- What an operation does. -/
structure Ef where
  ob : List Prop
  v : AV
  up : List (Nat × Hs)
  rd : List Nat

def Ef.fail : Ef := ⟨[False], .undef, [], []⟩
def Ef.ok (v : AV) : Ef := ⟨[], v, [], []⟩
def Ef.add (e : Ef) (p : List Prop) : Ef := ⟨p ++ e.ob, e.v, e.up, e.rd⟩
def Ef.when (p : List Prop) (v : AV) : Ef := ⟨p, v, [], []⟩

def andL : List Prop → Prop → Prop
  | [], X => X
  | p :: ps, X => p ∧ andL ps X
def andAll : List Prop → Prop
  | [] => True
  | [p] => p
  | p :: ps => p ∧ andAll ps
def impP (c : Prop) : List Prop → List Prop
  | [] => []
  | l => [c → andAll l]

def ev (T : List AV) : Od → AV
  | .t n => T.getD n .undef
  | .k a => a

def peel : AV → List Prop × AV
  | .gd b v => ((b = true) :: (peel v).1, (peel v).2)
  | v => ([], v)

def p1 (x : AV) (k : AV → Ef) : Ef :=
  ⟨(peel x).1 ++ (k (peel x).2).ob, (k (peel x).2).v, (k (peel x).2).up, (k (peel x).2).rd⟩

def hget (H : List Hs) (b : Nat) : Option Blk := match H[b]? with | some (.live B) => some B | _ => none
def isFree (H : List Hs) (b : Nat) : Bool := match H[b]? with | some .free => true | _ => false
def liveFrom : Nat → List Hs → List Nat
  | _, [] => []
  | n, .live _ :: H => n :: liveFrom (n + 1) H
  | n, _ :: H => liveFrom (n + 1) H

/-- A cell of its own: no aggregate, nothing guarded or unknown. -/
def scalarAV : AV → Bool
  | .val t _ => !isAgg t
  | .ref .. | .sl .. | .vsl .. | .mref _ | .fn .. => true
  | _ => false

def cellsOf (t : Ty) (v : AV) : Option (List AV) :=
  if isAgg t then match v with
    | .val t' x => (castD t' t x).map (flatA t)
    | .agg l => if isL l = true ∧ (ofAV l).length = sz t then some (ofAV l) else none
    | _ => none
  else if scalarAV v then some [v] else none

def setMany {α : Type} : List α → Nat → List α → List α
  | l, _, [] => l
  | l, i, v :: vs => setMany (l.set i v) (i + 1) vs

/-- Elements of a mutable block as elements of type e. -/
def arrElems (H : List Hs) (e : Ty) (b s : Nat) : Option (List (Den e)) :=
  match hget H b with
  | some (.arr te xs _) => if s = sz te then castL te e xs else none
  | _ => none

/-- What lies at an address in a mutable block: an element of type e, or e laid out flat. -/
def arrAt (H : List Hs) (e : Ty) (b s i o : Nat) : Option (List Prop × Den e) :=
  match hget H b with
  | some (.arr te xs _) =>
    if s = sz te ∧ o = 0 then match castL te e xs with
      | some ys => some ([i < ys.length], ys.getD i (dflt e))
      | none => if (sz te = 1 ∧ 0 < sz e) ∧ homog te e = true then some ([i + sz e ≤ xs.length], unflatAt te e xs i) else none
    else none
  | _ => none

def cellsAt (H : List Hs) (b j n : Nat) : Option (List AV) :=
  match hget H b with
  | some (.cells vs) => some ((vs.drop j).take n)
  | _ => none

/-- Pure data of type t out of cells, through mutable blocks where they lead there. -/
def rv (H : List Hs) : (t : Ty) → List AV → Option (List Prop × Den t)
  | .unit, cs => match cs with
    | [] => some ([], ())
    | _ => none
  | .prod a b, cs => match rv H a (cs.take (sz a)), rv H b (cs.drop (sz a)) with
    | some (p, x), some (q, y) => some (p ++ q, (x, y))
    | _, _ => none
  | .slice e, cs => match cs with
    | [.val t' x] => (castD t' (.slice e) x).map ([], ·)
    | [.vsl t' xs _] => (castD (.slice t') (.slice e) xs).map ([], ·)
    | [.sl b s i len _] => match arrElems H e b s with
      | some ys => some ([i + len ≤ ys.length], ((ys.drop i).take len : List (Den e)))
      | none => none
    | _ => none
  | .optr e, cs => match cs with
    | [.val t' x] => match castD t' (.optr e) x with
      | some y => some ([], y)
      | none => (castD t' (.ptr e) x).map fun (y : Den e) => ([], some y)
    | [.ref b s i o] => match cellsAt H b (i * s + o) (sz e) with
      | some vs => (rv H e vs).map fun r => (r.1, some r.2)
      | none => (arrAt H e b s i o).map fun r => (r.1, some r.2)
    | _ => none
  | .ptr e, cs => match cs with
    | [.val t' x] => match castD t' (.ptr e) x with
      | some y => some ([], y)
      | none => (castD t' (.optr e) x).map fun (y : Option (Den e)) => ([Option.isSome y = true], Option.getD y (dflt e))
    | [.ref b s i o] => match cellsAt H b (i * s + o) (sz e) with
      | some vs => rv H e vs
      | none => arrAt H e b s i o
    | _ => none
  | .map k v, cs => match cs with
    | [.val t' x] => (castD t' (.map k v) x).map ([], ·)
    | [.mref b] => match hget H b with
      | some (.map k' v' es) => (castD (.map k' v') (.map k v) es).map ([], ·)
      | _ => none
    | _ => none
  | t, cs => match cs with
    | [.val t' x] => (castD t' t x).map ([], ·)
    | _ => none

/-- The elements of a slice. -/
def rvL (H : List Hs) (te : Ty) (v : AV) : Option (List Prop × List (Den te)) := rv H (.slice te) [v]

def rvV (H : List Hs) (t : Ty) (v : AV) : Option (List Prop × Den t) :=
  if isAgg t then match v with
    | .val t' x => (castD t' t x).map ([], ·)
    | _ => none
  else rv H t [v]

def castM (k v k' v' : Ty) (es : List (Den k × Den v)) : Option (List (Den k' × Den v')) := castD (.map k v) (.map k' v') es
def asInt : AV → Option (IntKind × Int)
  | .val (.int k) n => some (k, n)
  | _ => none
def asBool : AV → Option Bool
  | .val .bool b => some b
  | _ => none
def asList (te : Ty) : AV → Option (List (Den te))
  | .val t xs => castD t (.slice te) xs
  | .vsl t xs _ => castD (.slice t) (.slice te) xs
  | _ => none
def asD (t : Ty) : AV → Option (Den t)
  | .val t' x => castD t' t x
  | _ => none

def binI (op : BOp) (k : IntKind) (x y : Int) : List Prop × AV :=
  match op with
  | .add => ([], .val (.int k) (wr k (x + y)))
  | .sub => ([], .val (.int k) (wr k (x - y)))
  | .mul => ([], .val (.int k) (wr k (x * y)))
  | .quo => ([y ≠ 0], .val (.int k) (wr k (x.tdiv y)))
  | .rem => ([y ≠ 0], .val (.int k) (x.tmod y))
  | .and => ([], .val (.int k) (iand k x y))
  | .or => ([], .val (.int k) (ior k x y))
  | .xor => ([], .val (.int k) (ixor k x y))
  | .andn => ([], .val (.int k) (iandn k x y))
  | .shl => ([0 ≤ y], .val (.int k) (ishl k x y))
  | .shr => ([0 ≤ y], .val (.int k) (ishr k x y))
  | .eq => ([], .val .bool (ieq x y))
  | .ne => ([], .val .bool (!ieq x y))
  | .lt => ([], .val .bool (ilt x y))
  | .le => ([], .val .bool (ile x y))
  | .gt => ([], .val .bool (ilt y x))
  | .ge => ([], .val .bool (ile y x))

def assoc (k v : Ty) (es : List (Den k × Den v)) (x : Den k) : Option (Den v) :=
  match es with
  | [] => none
  | e :: es => if deq k x e.1 then some e.2 else assoc k v es x

def assocUp (k v : Ty) (es : List (Den k × Den v)) (x : Den k) (y : Den v) : List (Den k × Den v) :=
  match es with
  | [] => [(x, y)]
  | e :: es => if deq k x e.1 then (x, y) :: es else e :: assocUp k v es x y

/-- The contracts that a run may use: what calling a function with some arguments does. -/
abbrev Spec := FuncId → List Hs → Nat → List AV → Ef

def peels : List AV → List Prop × List AV
  | [] => ([], [])
  | a :: l => ((peel a).1 ++ (peels l).1, (peel a).2 :: (peels l).2)

def boxBlk (t : Ty) (v : AV) : Option Blk :=
  if isAgg t then
    match v with
    | .val t' x => match castD t' t x with
      | some y => match leafOf t with
        | some s => if homog s t && sz s == 1 then some (.arr s (flatS s t y) false) else if 0 < sz t then some (.cells (flatA t y)) else none
        | none => none
      | none => none
    | .agg l => if isL l = true ∧ (ofAV l).length = sz t ∧ 0 < sz t then some (.cells (ofAV l)) else none
    | _ => none
  else if scalarAV v then some (.cells [v]) else none

def buildCells (T : List AV) : List AV → List (Nat × Ty × Od) → Option (List AV)
  | z, [] => some z
  | z, (off, te, x) :: ps => match cellsOf te (ev T x) with
    | some cs => if off + sz te ≤ z.length then buildCells T (setMany z off cs) ps else none
    | none => none

def bsList (te : Ty) (T : List AV) : List Od → Option (List Prop × List (Den te))
  | [] => some ([], [])
  | x :: xs => match peel (ev T x), bsList te T xs with
    | (p, .val t' y), some (q, ys) => match castD t' te y with
      | some z => some (p ++ q, z :: ys)
      | none => none
    | _, _ => none

def mmAll (mx : Bool) (k : IntKind) (T : List AV) : Int → List Od → Option (List Prop × Int)
  | a, [] => some ([], a)
  | a, x :: xs => match asInt (peel (ev T x)).2 with
    | some (k', b) => match mmAll mx k T (if mx then imax a b else imin a b) xs with
      | some (p, c) => if k = k' then some ((peel (ev T x)).1 ++ p, c) else none
      | none => none
    | none => none

def optI (T : List AV) : Option Od → Option (List Prop × Option Int)
  | none => some ([], none)
  | some x => match asInt (peel (ev T x)).2 with
    | some (_, n) => some ((peel (ev T x)).1, some n)
    | none => none

def aeff (sp : Spec) (base : Nat) (T : List AV) (H : List Hs) : AO → Ef
  | .mv x => .ok (ev T x)
  | .pick c a b => p1 (ev T c) fun c => match asBool c with
    | some x => match peel (ev T a), peel (ev T b) with
      | (p, .val t1 y1), (q, .val t2 y2) => match castD t2 t1 y2 with
        | some y => .when (impP (x = true) p ++ impP (x = false) q) (.val t1 (bif x then y1 else y))
        | none => .fail
      | _, _ => .fail
    | none => .fail
  | .bin op x y => p1 (ev T x) fun x => p1 (ev T y) fun y => match asInt x, asInt y with
    | some (k, a), some (k', b) => if op = .shl ∨ op = .shr ∨ k = k' then .when (binI op k a b).1 (binI op k a b).2 else .fail
    | _, _ => .fail
  | .eqv neg t x y => p1 (ev T x) fun x => p1 (ev T y) fun y => match asD t x, asD t y with
    | some a, some b => if eqable t then .ok (.val .bool (if neg then !deq t a b else deq t a b)) else .fail
    | _, _ => .fail
  | .not x => p1 (ev T x) fun x => match asBool x with
    | some b => .ok (.val .bool (!b))
    | none => .fail
  | .neg x => p1 (ev T x) fun x => match asInt x with
    | some (k, n) => .ok (.val (.int k) (wr k (0 - n)))
    | none => .fail
  | .build t z ps => match buildCells T z ps with
    | some cs => match ofCells t cs with
      | some x => .ok (.val t x)
      | none => if cs.length = sz t ∧ cs.all scalarAV then .ok (.agg (toAV cs)) else .fail
    | none => .fail
  | .load t x => p1 (ev T x) fun
    | .val (.ptr t') y => match castD t' t y with
      | some z => .ok (.val t z)
      | none => .fail
    | .ref b s i o => match hget H b with
      | some (.cells vs) =>
        if isAgg t then match ofCells t ((vs.drop (i * s + o)).take (sz t)) with
          | some z => ⟨[], .val t z, [], [b]⟩
          | none => .fail
        else match vs[i * s + o]? with
          | some v => ⟨[], v, [], [b]⟩
          | none => .fail
      | some (.arr te xs _) =>
        if s = sz te then
          match (if o = 0 then castL te t xs else none) with
          | some ys => ⟨[i < ys.length], .val t (ys.getD i (dflt t)), [], [b]⟩
          | none =>
            if o = 0 ∧ sz te = 1 ∧ homog te t = true then ⟨[i + sz t ≤ xs.length], .val t (unflatAt te t xs i), [], [b]⟩
            else match sub te o t (xs.getD i (dflt te)) with
              | some z => ⟨[i < xs.length], .val t z, [], [b]⟩
              | none => .fail
        else .fail
      | _ => .fail
    | _ => .fail
  | .store t x v => p1 (ev T x) fun
    | .ref b s i o => p1 (ev T v) fun v => match hget H b with
      | some (.cells vs) => match cellsOf t v with
        | some cs => if i * s + o + sz t ≤ vs.length then ⟨[], .undef, [(b, .live (.cells (setMany vs (i * s + o) cs)))], [b]⟩ else .fail
        | none => .fail
      | some (.arr te xs opn) =>
        if s = sz te ∧ o = 0 then match v with
          | .val t' y =>
            if t' = t then match castD t' te y with
              | some z => ⟨[i < xs.length], .undef, [(b, .live (.arr te (xs.set i z) opn))], [b]⟩
              | none => if (sz te = 1 ∧ 0 < sz t') ∧ homog te t' = true then ⟨[i + sz t' ≤ xs.length], .undef, [(b, .live (.arr te (setMany xs i (flatS te t' y)) opn))], [b]⟩ else .fail
            else .fail
          | _ => .fail
        else .fail
      | _ => .fail
    | _ => .fail
  | .alloc k B => if isFree H (base + k) then ⟨[], .ref (base + k) 1 0 0, [(base + k, .live B)], []⟩ else .fail
  | .box k t x => p1 (ev T x) fun v => match boxBlk t v with
    | some B => if isFree H (base + k) then ⟨[], .ref (base + k) 1 0 0, [(base + k, .live B)], []⟩ else .fail
    | none => .fail
  | .nilc x => p1 (ev T x) fun
    | .val (.optr e) o => .when [Option.isSome (α := Den e) o = true] (.val (.ptr e) (Option.getD (α := Den e) o (dflt e)))
    | .val (.ptr e) y => .ok (.val (.ptr e) y)
    | .ref b s i o => .ok (.ref b s i o)
    | .fn f c => .ok (.fn f c)
    | _ => .fail
  | .fld off te x => p1 (ev T x) fun
    | .val (.ptr t) y => match sub t off te y with
      | some z => .ok (.val (.ptr te) z)
      | none => .fail
    | .ref b s i o => if s = 1 then .ok (.ref b 1 (i + off) o) else .ok (.ref b s i (o + off))
    | _ => .fail
  | .fldv off te x => p1 (ev T x) fun
    | .val t y => if isAgg t then match sub t off te y with
        | some z => .ok (.val te z)
        | none => .fail
      else .fail
    | _ => .fail
  | .ixs te x i => p1 (ev T i) fun i => match asInt i with
    | some (_, n) => p1 (ev T x) fun x => match asList te x with
      | some ys => .when [0 ≤ n ∧ n < (ys.length : Nat)] (.val (.ptr te) (ys.getD n.toNat (dflt te)))
      | none => match x with
        | .sl b s j len _ => if s = sz te then .when [0 ≤ n ∧ n < (len : Nat)] (.ref b s (j + n.toNat) 0) else .fail
        | _ => .fail
    | none => .fail
  | .ixa n te x i => p1 (ev T i) fun i => match asInt i with
    | some (_, j) => p1 (ev T x) fun
      | .val (.ptr t) y => match castD t (arrT n te) y with
        | some z => .when [0 ≤ j ∧ j < (n : Nat)] (.val (.ptr te) (arrGet n te z j.toNat))
        | none => .fail
      | .ref b s i0 o => if s = 1 then .when [0 ≤ j ∧ j < (n : Nat)] (.ref b 1 (i0 + j.toNat * sz te) o)
          else .when [0 ≤ j ∧ j < (n : Nat)] (.ref b s i0 (o + j.toNat * sz te))
      | _ => .fail
    | none => .fail
  | .ixv n te x i => p1 (ev T i) fun i => match asInt i with
    | some (_, j) => p1 (ev T x) fun x => match asD (arrT n te) x with
      | some z => .when [0 ≤ j ∧ j < (n : Nat)] (.val te (arrGet n te z j.toNat))
      | none => .fail
    | none => .fail
  | .slc te x lo hi mx => match optI T lo, optI T hi, optI T mx with
    | some (p, lo), some (q, hi), some (r, mx) => p1 (ev T x) fun x => match asList te x with
      | some ys => match lo, hi, mx with
          | none, none, none => .when (p ++ q ++ r) x
          | some l, none, none => .when (p ++ q ++ r ++ [0 ≤ l ∧ l ≤ (ys.length : Nat)]) (.val (.slice te) (ys.drop l.toNat))
          | none, some h, none => .when (p ++ q ++ r ++ [0 ≤ h ∧ h ≤ (ys.length : Nat)]) (.val (.slice te) (ys.take h.toNat))
          | some l, some h, none => .when (p ++ q ++ r ++ [0 ≤ l ∧ l ≤ h ∧ h ≤ (ys.length : Nat)]) (.val (.slice te) ((ys.take h.toNat).drop l.toNat))
          | none, some h, some m => .when (p ++ q ++ r ++ [0 ≤ h ∧ h ≤ m ∧ m ≤ (ys.length : Nat)]) (.vsl te (ys.take h.toNat) m.toNat)
          | some l, some h, some m => .when (p ++ q ++ r ++ [0 ≤ l ∧ l ≤ h ∧ h ≤ m ∧ m ≤ (ys.length : Nat)]) (.vsl te ((ys.take h.toNat).drop l.toNat) (m.toNat - l.toNat))
          | _, _, _ => .fail
      | none => match x with
        | .sl b s i len c => if s = sz te then match lo, hi, mx with
          | none, none, none => .when (p ++ q ++ r) (.sl b s i len c)
          | some l, none, none => .when (p ++ q ++ r ++ [0 ≤ l ∧ l ≤ (len : Nat)]) (.sl b s (i + l.toNat) (len - l.toNat) (c.map (· - l.toNat)))
          | none, some h, none => .when (p ++ q ++ r ++ [0 ≤ h ∧ h ≤ (len : Nat)]) (.sl b s i h.toNat c)
          | some l, some h, none => .when (p ++ q ++ r ++ [0 ≤ l ∧ l ≤ h ∧ h ≤ (len : Nat)]) (.sl b s (i + l.toNat) (h.toNat - l.toNat) (c.map (· - l.toNat)))
          | _, _, _ => .fail
          else .fail
        | _ => .fail
    | _, _, _ => .fail
  | .sla n te x lo hi => match optI T lo, optI T hi with
    | some (p, lo), some (q, hi) => p1 (ev T x) fun
      | .val (.ptr t) y => match castD t (arrT n te) y with
        | some z => match lo, hi with
          | none, none => .when (p ++ q) (.val (.slice te) (arrList n te z))
          | some l, none => .when (p ++ q ++ [0 ≤ l ∧ l ≤ (n : Nat)]) (.val (.slice te) ((arrList n te z).drop l.toNat))
          | none, some h => .when (p ++ q ++ [0 ≤ h ∧ h ≤ (n : Nat)]) (.val (.slice te) ((arrList n te z).take h.toNat))
          | _, _ => .fail
        | none => .fail
      | .ref b s i o => if s = sz te ∧ o = 0 then match lo, hi with
          | none, none => .when (p ++ q) (.sl b s i n (some n))
          | some l, none => .when (p ++ q ++ [0 ≤ l ∧ l ≤ (n : Nat)]) (.sl b s (i + l.toNat) (n - l.toNat) (some (n - l.toNat)))
          | none, some h => .when (p ++ q ++ [0 ≤ h ∧ h ≤ (n : Nat)]) (.sl b s i h.toNat (some n))
          | _, _ => .fail
        else .fail
      | _ => .fail
    | _, _ => .fail
  | .ext x i => p1 (ev T x) fun
    | .tup l => match (ofAV l)[i]? with
      | some v => .ok v
      | none => .fail
    | _ => .fail
  | .call f args => (sp f H base (peels (args.map (ev T))).2).add (peels (args.map (ev T))).1
  | .callv g args => p1 (ev T g) fun
    | .fn f caps => if isL caps then (sp f H base ((peels (args.map (ev T))).2 ++ ofAV caps)).add (peels (args.map (ev T))).1 else .fail
    | _ => .fail
  | .len x => p1 (ev T x) fun
    | .val (.slice e) xs => .ok (.val (.int .i64) ((List.length (α := Den e) xs : Nat) : Int))
    | .vsl _ xs _ => .ok (.val (.int .i64) ((xs.length : Nat) : Int))
    | .sl _ _ _ len _ => .ok (.val (.int .i64) ((len : Nat) : Int))
    | _ => .fail
  | .mm mx x xs => p1 (ev T x) fun x => match asInt x with
    | some (k, a) => match mmAll mx k T a xs with
      | some (p, b) => .when p (.val (.int k) b)
      | none => .fail
    | none => .fail
  | .conv k x => p1 (ev T x) fun x => match asInt x with
    | some (_, n) => .ok (.val (.int k) (wr k n))
    | none => .fail
  | .mkfn f caps => .ok (.fn f (toAV (caps.map (ev T))))
  | .bslice te ps => match bsList te T ps with
    | some (p, xs) => .when p (.val (.slice te) xs)
    | none => .fail
  | .bslicem k te ps => match bsList te T ps with
    | some (p, xs) => if isFree H (base + k) then ⟨p, .sl (base + k) (sz te) 0 ps.length (some ps.length), [(base + k, .live (.arr te xs false))], []⟩ else .fail
    | none => .fail
  | .append k te bytes x y => p1 (ev T y) fun y => match rvL H te y with
    | some (q, ys) => p1 (ev T x) fun
      | .vsl t xs c => match castL t te xs with
        | some zs => if isFree H (base + k) then
            ⟨q ++ [c < zs.length + ys.length, (zs.length + ys.length) * bytes ≤ 1099511627776], .sl (base + k) (sz te) 0 (zs.length + ys.length) none, [(base + k, .live (.arr te (zs ++ ys) true))], liveFrom 0 H⟩ else .fail
        | none => .fail
      | .sl b s i len c => match hget H b with
        | some (.arr t xs opn) => match castL t te xs with
          | some zs => if isFree H (base + k) ∧ s = sz te then match c with
              | none => if i = 0 ∧ opn = true then
                  ⟨q ++ [len ≤ zs.length, (len + ys.length) * bytes ≤ 1099511627776], .sl (base + k) (sz te) 0 (len + ys.length) none, [(b, .dead), (base + k, .live (.arr te (zs.take len ++ ys) true))], liveFrom 0 H⟩ else .fail
              | some c =>
                  ⟨q ++ [i + len ≤ zs.length, c < len + ys.length, (len + ys.length) * bytes ≤ 1099511627776], .sl (base + k) (sz te) 0 (len + ys.length) none, [(base + k, .live (.arr te ((zs.drop i).take len ++ ys) true))], liveFrom 0 H⟩
            else .fail
          | none => .fail
        | _ => .fail
      | _ => .fail
    | none => .fail
  | .lookup kt vt d x i ok => p1 (ev T i) fun i => match asD kt i with
    | some key => if eqable kt then p1 (ev T x) fun x => match asD (.map kt vt) x with
        | some es => if ok then .ok (.tup (.cons (.val vt ((assoc kt vt es key).getD d)) (.cons (.val .bool (assoc kt vt es key).isSome) .nil)))
            else .ok (.val vt ((assoc kt vt es key).getD d))
        | none => match x with
          | .mref b => match hget H b with
            | some (.map k' v' es) => match castM k' v' kt vt es with
              | some es => if ok then ⟨[], .tup (.cons (.val vt ((assoc kt vt es key).getD d)) (.cons (.val .bool (assoc kt vt es key).isSome) .nil)), [], [b]⟩
                  else ⟨[], .val vt ((assoc kt vt es key).getD d), [], [b]⟩
              | none => .fail
            | _ => .fail
          | _ => .fail
        else .fail
    | none => .fail
  | .mapup kt vt m key v => p1 (ev T m) fun
    | .mref b => p1 (ev T key) fun key => p1 (ev T v) fun v => match asD kt key, asD vt v, hget H b with
      | some x, some y, some (.map k' v' es) => match castM k' v' kt vt es with
        | some es => if eqable kt then ⟨[], .undef, [(b, .live (.map kt vt (assocUp kt vt es x y)))], [b]⟩ else .fail
        | none => .fail
      | _, _, _ => .fail
    | _ => .fail
  | .mkmap k kt vt => if isFree H (base + k) then ⟨[], .mref (base + k), [(base + k, .live (.map kt vt []))], []⟩ else .fail
  | .mkslice k te z bytes n c => p1 (ev T n) fun n => p1 (ev T c) fun c => match asInt n, asInt c with
    | some (_, n), some (_, c) => if isFree H (base + k) then
        ⟨[0 ≤ n ∧ n ≤ c ∧ c * bytes ≤ 1099511627776], .sl (base + k) (sz te) 0 n.toNat none, [(base + k, .live (.arr te (List.replicate n.toNat z) true))], []⟩ else .fail
    | _, _ => .fail

def putUp : List Hs → List (Nat × Hs) → List Hs
  | H, [] => H
  | H, p :: up => putUp (H.set p.1 p.2) up

/-- With its guard. -/
def geff (sp : Spec) (base : Nat) (T : List AV) (H : List Hs) (o : AOp) : Ef :=
  match o.g with
  | none => aeff sp base T H o.op
  | some (d, want) => match peel (T.getD d .undef) with
    | (p, .val .bool x) =>
      let c : Bool := if want then x else !x
      match (aeff sp base T H o.op).up with
      | [] => ⟨p ++ impP (c = true) (aeff sp base T H o.op).ob, .gd c (aeff sp base T H o.op).v, [], (aeff sp base T H o.op).rd⟩
      | _ => .fail
    | _ => .fail

def setT (T : List AV) : Option Nat → AV → List AV
  | none, _ => T
  | some d, v => T.set d v

end
end Go.Ab
