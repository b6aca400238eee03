/- comp: from the program's code to compact code (AC). What it checks is what the proofs of Ab4 want. -/
import Derived.Test.YtffapeomfjfedaaAb2
set_option linter.unusedVariables false
namespace Go.Ab
noncomputable section

def aggD : TypeDesc → Bool
  | .struct _ => true
  | .array _ _ => true
  | _ => false

def tyFields (f : TypeId → Option Ty) : List Field → Option Ty
  | [] => some .unit
  | x :: xs => match f x.type, tyFields f xs with
    | some a, some b => some (.prod a b)
    | _, _ => none

/-- The typed shape of a type. -/
def tyOf (P : Program) : Nat → TypeId → Option Ty
  | 0, _ => none
  | n + 1, t => match P.underlying t with
    | some (.int k) => some (.int k)
    | some .bool => some .bool
    | some (.slice e) => match tyOf P n e with | some e => some (.slice e) | none => some .oth
    | some (.pointer e) => match tyOf P n e with | some e => some (.optr e) | none => some .oth
    | some (.array l e) => match tyOf P n e with | some e => some (arrT l e) | none => none
    | some (.struct fs) => tyFields (tyOf P n) fs.toList
    | some (.map k v) => match tyOf P n k, tyOf P n v with | some k, some v => some (.map k v) | _, _ => some .oth
    | some (.func ..) => some .oth
    | _ => none

def tyS (P : Program) (t : TypeId) : Option Ty :=
  match tyOf P 12 t, P.info? t, P.underlying t with
  | some ty, some i, some d => if i.size = sz ty ∧ aggD d = isAgg ty then some ty else none
  | _, _, _ => none

def aggV : Value → Bool
  | .agg _ => true
  | _ => false

def denOf : (t : Ty) → List Value → Option (Den t)
  | .int k, cs => match cs with
    | [.int k' n] => if k = k' then some n else none
    | _ => none
  | .bool, cs => match cs with
    | [.bool b] => some b
    | _ => none
  | .unit, cs => match cs with
    | [] => some ()
    | _ => none
  | .prod a b, cs => match denOf a (cs.take (sz a)), denOf b (cs.drop (sz a)) with
    | some x, some y => some (x, y)
    | _, _ => none
  | .slice _, cs => match cs with
    | [.slice none 0 0] => some []
    | _ => none
  | .optr _, cs => match cs with
    | [.pointer none] => some none
    | _ => none
  | .ptr _, _ => none
  | .map _ _, _ => none
  | .oth, _ => none

/-- A cell of a zero value. -/
def zeroA : (t : Ty) → List Value → List AV
  | .unit, _ => []
  | .prod a b, cs => zeroA a (cs.take (sz a)) ++ zeroA b (cs.drop (sz a))
  | .slice e, cs => match cs with
    | [.slice none 0 0] => [.vsl e [] 0]
    | _ => [.undef]
  | t, cs => match denOf t cs with
    | some x => [.val t x]
    | none => [.undef]

def constA (ty : Option Ty) : Value → Option AV
  | .int k n => some (.val (.int k) n)
  | .bool b => some (.val .bool b)
  | .slice none 0 0 => match ty with | some (.slice e) => some (.vsl e [] 0) | _ => none
  | .pointer none => match ty with | some (.optr e) => some (.val (.optr e) none) | _ => none
  | .agg cs => match ty with | some t => if isAgg t then match denOf t cs.toList with | some x => some (.val t x) | none => none else none | none => none
  | _ => none

def cOd (ty : Option Ty) : Operand → Option Od
  | .tmp t => some (.t t)
  | .const v => match constA ty v with | some a => some (.k a) | none => none
  | .func f => some (.k (.fn f .nil))
  | .global _ => none

def cOds : List (Option Ty) → List Operand → Option (List Od)
  | _, [] => some []
  | tys, x :: xs => match cOd (tys.headD none) x, cOds tys.tail xs with
    | some a, some l => some (a :: l)
    | _, _ => none

def bopOf : BinOp → Option BOp
  | .add => some .add | .sub => some .sub | .mul => some .mul | .quo => some .quo | .rem => some .rem
  | .and => some .and | .or => some .or | .xor => some .xor | .andNot => some .andn | .shl => some .shl | .shr => some .shr
  | .eql => some .eq | .neq => some .ne | .lss => some .lt | .leq => some .le | .gtr => some .gt | .geq => some .ge

/-- The type's parts are compared as the typed shape's are. -/
def eqT (P : Program) : Nat → TypeId → Ty → Bool
  | 0, _, _ => false
  | n + 1, t, ty => match P.underlying t, ty with
    | some (.int k), .int k' => k == k'
    | some .bool, .bool => true
    | some (.array l e), ty => match tyS P e, P.info? e, P.underlying e with
      | some te, some i, some d => decide (ty = arrT l te) && eqT P n e te && decide (i.size = sz te) && (aggD d == isAgg te) && decide (0 < l)
      | _, _, _ => false
    | _, _ => false

def constInt : Operand → Option Int
  | .const (.int _ n) => some n
  | _ => none

def callable (P : Program) (f : FuncId) : Bool :=
  match P.funcs[f]? with
  | some fn => !(fn.name == "runtime.NumGoroutine") && fn.body.isSome
  | none => false

def cParts (P : Program) (fs : Array Field) (pl : Array (Nat × Nat)) : List (Nat × Operand) → Option (List (Nat × Ty × Od))
  | [] => some []
  | (i, x) :: ps => match fs[i]?, pl[i]? with
    | some f, some (off, n) => match tyS P f.type, cParts P fs pl ps with
      | some te, some l => match cOd (some te) x with
        | some od => if n = sz te then some ((off, te, od) :: l) else none
        | none => none
      | _, _ => none
    | _, _ => none

def cPartsA (te : Ty) : List (Nat × Operand) → Option (List (Nat × Ty × Od))
  | [] => some []
  | (i, x) :: ps => match cOd (some te) x, cPartsA te ps with
    | some od, some l => some ((i * sz te, te, od) :: l)
    | _, _ => none

def cPartsS (te : Ty) : Nat → List (Nat × Operand) → Option (List Od)
  | _, [] => some []
  | n, (i, x) :: ps => match cOd (some te) x, cPartsS te (n + 1) ps with
    | some od, some l => if i = n then some (od :: l) else none
    | _, _ => none

def zeroBlk (t : Ty) (cs : List Value) : Option Blk :=
  if isAgg t then
    match denOf t cs with
    | some x => boxBlk t (.val t x)
    | none => none
  else some (.cells (zeroA t cs))

def cOpt : Option Operand → Option (Option Od)
  | none => some none
  | some x => match cOd none x with | some o => some (some o) | none => none

/-- One operation; k: how many blocks the region has made before it; ms: the slots whose literal slices are written to or appended to. -/
def cOp (P : Program) (ms : List Nat) (o : Oper) (k : Nat) : Option AO :=
  match o.op with
  | .move x | .assign x => match cOd (tyS P o.type) x with | some x => some (.mv x) | none => none
  | .pick c a b => match cOd none c, cOd none a, cOd none b with
    | some c, some a, some b => some (.pick c a b)
    | _, _, _ => none
  | .binOp op xt x y _ => match cOd (tyS P xt) x, cOd (tyS P xt) y, P.underlying xt with
    | some x', some y', some (.int _) => match bopOf op with
      | some b => some (.bin b x' y')
      | none => none
    | some x', some y', some _ => match tyS P xt with
      | some ty => if eqT P 12 xt ty && !(P.eqGuardType P.depth xt) then match op with
          | .eql => some (.eqv false ty x' y')
          | .neq => some (.eqv true ty x' y')
          | _ => none
        else none
      | none => none
    | _, _, _ => none
  | .unOp op _ x => match op, cOd none x with
    | .not, some x => some (.not x)
    | .neg, some x => some (.neg x)
    | _, _ => none
  | .build t ps => match tyS P t, P.info? t, P.underlying t with
    | some ty, some i, some (.struct fs) => match i.zero, fs.toList.mapM (fun f => (P.info? f.type).map fun i => (f.offset, i.size)) with
      | some z, some pl => match cParts P fs pl.toArray ps.toList with
        | some l => if z.cells.size = sz ty ∧ isAgg ty = true ∧ z.cells.toList.all Value.oneCell' = true then some (.build ty (zeroA ty z.cells.toList) l) else none
        | none => none
      | _, _ => none
    | some ty, some i, some (.array n e) => match i.zero, tyS P e with
      | some z, some te => match cPartsA te ps.toList with
        | some l => if z.cells.size = sz ty ∧ isAgg ty = true ∧ z.cells.toList.all Value.oneCell' = true then some (.build ty (zeroA ty z.cells.toList) l) else none
        | none => none
      | _, _ => none
    | _, _, _ => none
  | .load t a => match tyS P t, cOd none a with | some ty, some a => some (.load ty a) | _, _ => none
  | .store t a x => match tyS P t, cOd none a, cOd (tyS P t) x with | some ty, some a, some x => some (.store ty a x) | _, _, _ => none
  | .alloc e => match tyS P e, P.info? e with
    | some ty, some i => match i.zero with
      | some z => if z.cells.size = sz ty ∧ z.cells.toList.all Value.oneCell' = true then match zeroBlk ty z.cells.toList with | some B => some (.alloc k B) | none => none else none
      | none => none
    | _, _ => none
  | .box e x => match tyS P e, cOd (tyS P e) x with | some ty, some x => some (.box k ty x) | _, _ => none
  | .nilCheck x => match cOd none x with | some x => some (.nilc x) | none => none
  | .fieldAddr s x f => match P.underlying s, cOd none x with
    | some (.struct fs), some x => match fs[f]? with
      | some fl => match tyS P fl.type with
        | some te => if 0 < sz te then some (.fld fl.offset te x) else none
        | none => none
      | none => none
    | _, _ => none
  | .field s x f => match P.underlying s, cOd none x with
    | some (.struct fs), some x => match fs[f]? with
      | some fl => match tyS P fl.type with
        | some te => some (.fldv fl.offset te x)
        | none => none
      | none => none
    | _, _ => none
  | .indexAddr t x i => match P.underlying t, cOd none x, cOd none i with
    | some (.slice e), some x, some i => match tyS P e with
      | some te => some (.ixs te x i)
      | none => none
    | some (.array n e), some x, some i' => match tyS P e with
      | some te => match constInt i with
        | some c => if 0 ≤ c ∧ c < (n : Int) then some (.fld (c.toNat * sz te) te x) else none
        | none => some (.ixa n te x i')
      | none => none
    | _, _, _ => none
  | .index t x i => match P.underlying t, cOd none x, cOd none i with
    | some (.array n e), some x, some i' => match tyS P e with
      | some te => match constInt i with
        | some c => if 0 ≤ c ∧ c < (n : Int) then some (.fldv (c.toNat * sz te) te x) else none
        | none => some (.ixv n te x i')
      | none => none
    | _, _, _ => none
  | .slice t x lo hi mx => match P.underlying t, cOd none x, cOpt lo, cOpt hi, cOpt mx with
    | some (.slice e), some x, some lo, some hi, some mx => match tyS P e with
      | some te => some (.slc te x lo hi mx)
      | none => none
    | some (.array n e), some x, some lo, some hi, some none => match tyS P e with
      | some te => some (.sla n te x lo hi)
      | none => none
    | _, _, _, _, _ => none
  | .extract x i => match cOd none x with | some x => some (.ext x i) | none => none
  | .call c => match c.callee with
    | .value (.func f) => match cOds (c.argTypes.toList.map (tyS P)) c.args.toList with
      | some l => if callable P f then some (.call f l) else none
      | none => none
    | .value (.tmp g) => match cOds (c.argTypes.toList.map (tyS P)) c.args.toList with
      | some l => some (.callv (.t g) l)
      | none => none
    | .builtin .len => match c.args.toList, c.argTypes.toList with
      | [x], [t] => match P.underlying t, cOd none x with
        | some (.slice _), some x => some (.len x)
        | some (.array n _), _ => some (.mv (.k (.val (.int .i64) (n : Int))))
        | _, _ => none
      | _, _ => none
    | .builtin .min => match cOds [] c.args.toList with
      | some (x :: xs) => some (.mm false x xs)
      | _ => none
    | .builtin .max => match cOds [] c.args.toList with
      | some (x :: xs) => some (.mm true x xs)
      | _ => none
    | .builtin .append => match c.args.toList, c.argTypes.toList with
      | [x, y], [t, u] => match P.underlying t, P.underlying u, cOd (tyS P t) x, cOd (tyS P u) y with
        | some (.slice e), some (.slice _), some x, some y => match tyS P e, P.info? e with
          | some te, some i => match i.zero with
            | some z => if z.cells.size = sz te ∧ 0 < i.bytes ∧ 0 < sz te ∧ t = u then some (.append k te i.bytes x y) else none
            | none => none
          | _, _ => none
        | _, _, _, _ => none
      | _, _ => none
    | _ => none
  | .convert s d x => match P.underlying s, P.underlying d, cOd (tyS P s) x with
    | some (.int _), some (.int k), some x => some (.conv k x)
    | _, _, _ => none
  | .makeFunc (.func f) first caps => if first.size = 0 then match cOds [] caps.toList with | some l => if callable P f then some (.mkfn f l) else none | none => none else none
  | .buildSlice t n ps => match P.underlying t with
    | some (.slice e) => match tyS P e, P.info? e with
      | some te, some i => match i.zero, cPartsS te 0 ps.toList with
        | some z, some l => if l.length = n ∧ z.cells.size = sz te ∧ n * sz te ≤ 1000000 ∧ 0 < sz te then
            (if ms.contains (o.dst.getD 0) then some (.bslicem k te l) else some (.bslice te l)) else none
        | _, _ => none
      | _, _ => none
    | _ => none
  | .lookup t x i ok => match P.underlying t, cOd none x with
    | some (.map kt vt), some x => match tyS P kt, tyS P vt, P.info? vt with
      | some k, some v, some inf => match cOd (some k) i, inf.zero with
        | some i, some z => match denOf v z.cells.toList with
          | some d => if eqT P 12 kt k ∧ isAgg v = aggV z then some (.lookup k v d x i ok) else none
          | none => none
        | _, _ => none
      | _, _, _ => none
    | _, _ => none
  | .mapUpdate t m x v | .insert t m x v => match P.underlying t, cOd none m with
    | some (.map kt vt), some m => match tyS P kt, tyS P vt with
      | some k, some vv => match cOd (some k) x, cOd (some vv) v with
        | some x, some v => if eqT P 12 kt k then some (.mapup k vv m x v) else none
        | _, _ => none
      | _, _ => none
    | _, _ => none
  | .makeMap t none => match P.underlying t with
    | some (.map kt vt) => match tyS P kt, tyS P vt with
      | some kt, some vt => some (.mkmap k kt vt)
      | _, _ => none
    | _ => none
  | .makeSlice t n c => match P.underlying t, cOd none n, cOd none c with
    | some (.slice e), some n, some c => match tyS P e, P.info? e with
      | some te, some i => match i.zero with
        | some z => if z.cells.size = sz te ∧ 0 < i.bytes ∧ 0 < sz te then (match denOf te z.cells.toList with | some x => some (.mkslice k te x i.bytes n c) | none => none) else none
        | none => none
      | _, _ => none
    | _, _, _ => none
  | _ => none

/-- How many blocks of its own an operation may make. -/
def AO.na : AO → Nat
  | .alloc .. | .box .. | .bslicem .. | .append .. | .mkmap .. | .mkslice .. => 1
  | .call .. | .callv .. => 4
  | _ => 0

def cGuard (all : Array Oper) : Option (Nat × Bool) → Option (Option (Nat × Bool))
  | none => some none
  | some (j, want) => match (all[j]?).bind (·.dst) with
    | some d => some (some (d, want))
    | none => none

def cReg (P : Program) (ms : List Nat) (all : Array Oper) : List Oper → Nat → Option (List AOp × Nat)
  | [], k => some ([], k)
  | o :: os, k => match cOp P ms o k, cGuard all o.guard with
    | some ao, some g => match cReg P ms all os (k + ao.na) with
      | some (l, m) => some (⟨o.dst, ao, g⟩ :: l, m)
      | none => none
    | _, _ => none

def maskOf (acc : List Nat) : List Edge → Nat
  | [] => 0
  | e :: es => if Region.binds .any e then (2 ^ e.on ||| acc.getD e.on 0) ||| maskOf acc es else maskOf acc es

/-- For each operation the set of those that must come before it, as bits. -/
def masks : List Oper → List Nat → List Nat
  | [], acc => acc
  | o :: os, acc => masks os (acc ++ [maskOf acc o.after.toList])

inductive AC where
  | skip
  | reg (m : Nat) (ops : List AOp) (ed : Option (List Nat))
  | seq (a b : AC)
  | ite (c : Od) (a b : AC)
  | blk (id : Nat) (a : AC)
  | loop (mask : List Nat) (a : AC)
  | exit (id : Nat)
  | ret

def cCode (P : Program) (ms : List Nat) : Code → List (List Nat) → Option (AC × List (List Nat))
  | .skip, lm => some (.skip, lm)
  | .region _ ops draw, lm => match cReg P ms ops ops.toList 0 with
    | some (l, m) => some (.reg m l (if draw then some (masks ops.toList []) else none), lm)
    | none => none
  | .seq a b, lm => match cCode P ms a lm with
    | some (x, lm) => match cCode P ms b lm with
      | some (y, lm) => some (.seq x y, lm)
      | none => none
    | none => none
  | .cond c a b, lm => match cOd none c, cCode P ms a lm with
    | some c, some (x, lm) => match cCode P ms b lm with
      | some (y, lm) => some (.ite c x y, lm)
      | none => none
    | _, _ => none
  | .block id a, lm => match cCode P ms a lm with
    | some (x, lm) => some (.blk id x, lm)
    | none => none
  | .loop a, lm => match cCode P ms a lm.tail with
    | some (x, lm') => some (.loop (lm.headD []) x, lm')
    | none => none
  | .exit id, lm => some (.exit id, lm)
  | .label _, lm => some (.skip, lm)
  | .ret, lm => some (.ret, lm)
  | _, _ => none

end
end Go.Ab
