/- Skews of standard fillings,reckoned: where they go,and how many. -/
import Derived.Test.YtobghbapmlnmoaaXY
import Derived.Test.YtobghbapmlnmoaaXO
set_option linter.unusedVariables false
set_option linter.unusedSimpArgs false
namespace Go.Schur
def usOf (U:List (List Nat)) (n:Nat):List Nat:=(List.range' 1 n).map fun k=>U.findIdx fun r=>r.contains k
def usN (m w:List Nat):List Nat:=match strN w 40 (trN (m,qeh w)) with
 | none=>[]
 | some U=>usOf U w.length
def zdk (w u:List Nat):Bool:=(List.range w.length).all fun k=>Nat.blt (gN w k) (gN w (k+1)) == Nat.blt (gN u k) (gN u (k+1))
def chk2 (m w:List Nat):Bool:=okN2 w w.length (m,qeh w) && match strN w 40 (trN (m,qeh w)) with
 | none=>false
 | some U=>decide ((trN ([],qeh (usOf U w.length))).2=U) && zdk w (usOf U w.length) && (usOf U w.length).all (fun i=>Nat.blt i 8)
def wdN (m c:List Nat):Nat→List Nat→List (List Nat)
 | 0,w=>[w]
 | n+1,w=>(List.range 8).flatMap fun i=>bif Nat.blt (outW m w i) (gN c i) && canN m w i then wdN m c n (w++[i]) else []
def subN (m c:List Nat):Bool:=(List.range 8).all fun i=>Nat.ble (gN m i) (gN c i)
def cntU (L:List (List Nat)) (u:List Nat):Nat:=L.countP fun v=>decide (v=u)
def tb3 (n:Nat) (m c:List Nat) (L us:List (List Nat)):Bool:=L.all (fun w=>chk2 m w && (List.range 8).all fun i=>Nat.beq (outW m w i) (gN c i)) && (P n).all fun b=>(wdN [] b n []).all fun u=>decide ((cntU us u:Int)=refR (toI m) (toI b) (toI c))
def tb2 (n:Nat) (m c:List Nat):Bool:=bif subN m c then tb3 n m c (wdN m c n []) ((wdN m c n []).map (usN m)) else true
def tabS (k n:Nat):Bool:=(P k).all fun m=>(P (k+n)).all fun c=>tb2 n m c
end Go.Schur
