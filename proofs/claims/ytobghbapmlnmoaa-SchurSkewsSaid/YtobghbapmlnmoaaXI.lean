/- Strips between shapes of at most 8 boxes: tables. -/
import Derived.Test.YtobghbapmlnmoaaXG
set_option linter.unusedVariables false
set_option linter.unusedSimpArgs false
namespace Go.Schur
open Go Go.Ab Go.Proofs
def P (n:Nat):List (List Nat):=qpx n n n
def memb:List Nat→List Nat→Bool
 | [],[]=>true
 | [],[_]=>true
 | [],_=>false
 | m::_,[]=>false
 | m::μ,a::p=>Nat.ble m a && (Nat.ble (p.headD 0) m && memb μ p)
def zd4 (l:List Nat):List Nat:=l.filter fun x=>!Nat.beq x 0
def less (k:Nat) (p:List Nat):List (List Nat):=(P (p.sum-k)).filter fun μ=>memb μ p
end Go.Schur
