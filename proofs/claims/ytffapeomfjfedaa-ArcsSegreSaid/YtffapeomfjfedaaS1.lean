/- The law Segre: arcs of p - 2 points beside three,reckoned: they are on a curve,and are all of it. -/
import Derived.WalkKit
set_option linter.unusedVariables false
namespace Go.Arcs
abbrev ST:=Nat × Nat
def st2 (p:Nat) (a b : ST) : Bool:=!Nat.beq a.1 b.1 && !Nat.beq a.2 b.2 && !Nat.beq (a.1 * b.2 % p) (b.1 * a.2 % p)
def st3 (p:Nat) (a b c : ST) : Bool:=!Nat.beq ((a.1 * b.2 + b.1 * c.2 + c.1 * a.2) % p) ((b.1 * a.2 + c.1 * b.2 + a.1 * c.2) % p)
def stAdd (p:Nat) (L : List ST) (x : ST) : Bool:=L.all (st2 p x) && L.all fun a=>L.all fun b=>Nat.beq a.1 b.1 || st3 p x a b
def stOn (p:Nat) (u v x : ST) : Bool:=Nat.beq ((u.1 * v.1 * v.2 * x.2 + u.2 * v.2 * u.1 * x.1 + u.2 * v.1 * (x.1 * x.2)) % p) ((u.1 * v.1 * u.2 * x.2 + u.2 * v.2 * v.1 * x.1 + u.1 * v.2 * (x.1 * x.2)) % p)
def stAll (p:Nat) : List ST:=(List.range (p - 1)).flatMap fun s=>(List.range (p - 1)).map fun t=>(s + 1,t + 1)
def stLeaf (p:Nat) : List ST → Bool
 | u :: v :: L=>(stAll p).all fun x=>Nat.beq (bif stOn p u v x then 1 else 0) (bif (u :: v :: L).any (fun y=>Nat.beq y.1 x.1 && Nat.beq y.2 x.2) then 1 else 0)
 | _=>false
def stGo (p:Nat) : Nat → List ST → Bool
 | 0,L=>stLeaf p L
 | n + 1,L=>(stAll p).all fun x=>bif stAdd p L x then stGo p n (x :: L) else true
end Go.Arcs
