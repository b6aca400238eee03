/- slices.Backward: the iterator's contract. -/
import Derived.RangeFuncNested
import Derived.RangeFuncBound
import Derived.RangeFuncCalls
import Derived.RangeFuncLeaves
import Derived.RangeFuncBox
import Derived.Shelf.Abstract
import Derived.Shelf.RegionOpen
import Derived.WalkKit
import Derived.OwnWalkIn
import Derived.TacticsInMore
import Derived.LoopNIn
import Derived.LoopIn
import Derived.Test.YtobghbapmlnmoaaProg
set_option maxRecDepth 100000
namespace Go.Schur
open Go Go.Proofs Go.RowKit Go.Shelf
attribute [local go_sem] Oper.semAt_some
def upto {α:Type} (f:Nat→α) (k:Nat):List α:=(List.range k).map f
theorem qu3 {α:Type} (f:Nat→α) (k:Nat):upto f (k+1)=upto f k++[f k]:=by simp [upto,List.range_succ]
theorem qvr {α:Type} (f:Nat→α) (k:Nat):(upto f k).length=k:=by simp [upto]
def e8 (m:Nat):Int:=((m % 8+1:Nat):Int)
abbrev bkF (len:Nat) (zs:List Nat) (j:Nat):Int×Nat:=((len:Int)-1-(j:Int),zs[len-1-j]?.getD 0)
def qly (S:Nat→Prop) (A B:World):Prop:=∀ b,S b→B.heap[b]?=A.heap[b]?
theorem qly.refl {S:Nat→Prop} {A:World}:qly S A A:=fun _ _=>rfl
theorem qly.trans {S:Nat→Prop} {A B C:World} (h:qly S A B) (k:qly S B C):qly S A C:=fun b hb=>(k b hb).trans (h b hb)
theorem qly.cell {S:Nat→Prop} {A B:World} (h:qly S A B) {b o:Nat} (hb:S b):B.cell? ⟨b,o,none⟩=A.cell? ⟨b,o,none⟩:=by
 simp only [World.cell?,h b hb]
set_option maxHeartbeats 2000000 in
theorem q6f (F:Fence) (n:Nat) (h8:F.fn 143) (hro:F.round=none) (hn:1≤n) (l Bs b off len cap:Nat) (S:Nat→Prop) (zs:List Nat) (hreach:len*8≤140737488351232) (hb:S b) (hBn:S Bs) (J Jx:List (Int×Nat)→World→Prop)
  (hY:∀ pre x W,J pre W→pre.length<len→YieldAt F (n-1) Try.prog l #[.int .i64 x.1,.int .i64 (e8 x.2)] W fun e W' =>
   (e=.returned (.bool true)∧J (pre++[x]) W'∧qly S W W')∨(e=.returned (.bool false)∧Jx (pre++[x]) W'))
  (W:World) (hBs:W.cell? ⟨Bs,0,none⟩=some (.slice (some ⟨b,off,none⟩) len cap)) (hc:∀ j,j<len→W.cell? ⟨b,off+j,none⟩=some (.int .i64 (e8 (zs[j]?.getD 0)))) (h0:J [] W) :
  CallsIn F n Try.prog 143 #[.func (.yield l) #[] #[],.pointer (some ⟨Bs,0,none⟩)] W fun e W'=>(∃ v,e=.returned v) ∧
   ((∃ ys,ys=upto (bkF len zs) len∧J ys W')∨(∃ pre,(∃ k,k≤len∧pre=upto (bkF len zs) k)∧Jx pre W')):=by
 refine callsIn_of_wp Try.func143 rfl h8 ?_ hro;simp only [Try.ntmps143,List.size_toArray,List.length_cons,List.length_nil,Nat.reduceAdd,Nat.reduceSub,Array.replicate_succ,Array.replicate_zero,List.push_toArray,List.append_toArray,List.nil_append,List.cons_append]
 gi_wp2
 gi_loopw [3] (fun i wr=>∃ k:Nat,k≤len∧i=.int .i64 ((len:Int)-1-(k:Int))∧J (upto (bkF len zs) k) wr∧qly S W wr)
  (fun i _=>(intOf i+1).toNat)
 case atStart=>exact ⟨0,Nat.zero_le _,by simp,h0,qly.refl⟩
 case round =>
  obtain ⟨k,hk,rfl,hJs,hnx⟩:=hrel;have hsx:wr.cell? ⟨Bs,0,none⟩=some (.slice (some ⟨b,off,none⟩) len cap):=(hnx.cell hBn).trans hBs
  by_cases hlt:k<len
  ·have hcx:wr.cell? ⟨b,off+(len-1-k),none⟩=some (.int .i64 (e8 (zs[len-1-k]?.getD 0))):=(hnx.cell hb).trans (hc _ (by omega))
   obtain ⟨fn,tmps,assign,body,hy,hR⟩:=hY _ (bkF len zs k) wr hJs (by rw [qvr];exact hlt)
   dsimp only [bkF] at hy
   have e1:(len:Int)-1-(k:Int)=((len-1-k:Nat):Int):=by omega
   rw [e1] at hy ⊢
   gi_wp2
   refine hR.mono ?_;rintro e W3 (⟨rfl,hJ3,hk3⟩ | ⟨rfl,hJx3⟩)
   ·gi_wp2
    go_roundw
    case rel=>exact ⟨k+1,by omega,by first | (simp;done) | (simp;omega),by rw [qu3];exact hJ3,hnx.trans hk3⟩
    case measure=>first | (simp [intOf];done) | (simp [intOf];omega)
   ·gi_wp2
    refine bodyPost_ret (results_none rfl _ _ _) rfl ?_;exact ⟨⟨_,rfl⟩,.inr ⟨_,⟨k+1,by omega,(qu3 _ _).symm⟩,hJx3⟩⟩
  ·obtain rfl:k=len:=by omega
   have e1:(k:Int)-1-(k:Int) = -1:=by omega
   rw [e1]
   gi_wp2
   go_end0
   exact ⟨⟨_,rfl⟩,.inl ⟨_,rfl,hJs⟩⟩
set_option maxHeartbeats 1000000 in
theorem qvl (F:Fence) (n:Nat) (h8:F.fn 143) (hro:F.round=none) (l Bs:Nat) (J:List (Int×Nat)→World→Prop) (W:World) (ad:Option Addr) (cap:Nat) (hBs:W.cell? ⟨Bs,0,none⟩=some (.slice ad 0 cap)) (h0:J [] W) :
  CallsIn F n Try.prog 143 #[.func (.yield l) #[] #[],.pointer (some ⟨Bs,0,none⟩)] W fun e W'=>(∃ v,e=.returned v)∧J [] W':=by
 refine callsIn_of_wp Try.func143 rfl h8 ?_ hro;simp only [Try.ntmps143,List.size_toArray,List.length_cons,List.length_nil,Nat.reduceAdd,Nat.reduceSub,Array.replicate_succ,Array.replicate_zero,List.push_toArray,List.append_toArray,List.nil_append,List.cons_append]
 gi_wp2
 gi_loopw [3] (fun i wr=>i=.int .i64 (-1)∧J [] wr) (fun _ _=>0)
 case atStart=>exact ⟨rfl,h0⟩
 case round =>
  obtain ⟨rfl,hJs⟩:=hrel
  gi_wp2
  go_end0
  exact ⟨⟨_,rfl⟩,hJs⟩
set_option maxHeartbeats 1000000 in
theorem qw9 (F:Fence) (n:Nat) (h6:F.fn 134) (hro:F.round=none) (a:Option Addr) (len cap:Nat) (w:World) :
  CallsIn F n Try.prog 134 #[.slice a len cap] w fun e w'=>e=.returned (.func (.func 143) #[] #[.pointer (some ⟨w.heap.size,0,none⟩)])∧w'=w.alloc (.cells #[.slice a len cap] 22):=by
 refine callsIn_of_wp Try.func134 rfl h6 ?_ hro;simp only [Try.ntmps134,List.size_toArray,List.length_cons,List.length_nil,Nat.reduceAdd,Nat.reduceSub,Array.replicate_succ,Array.replicate_zero,List.push_toArray,List.append_toArray,List.nil_append,List.cons_append]
 gi_wp2
 go_ret
 exact ⟨rfl,rfl⟩
def q86 (S:Nat→Prop) (W:World) (sv:Value) (zs:List Nat):Prop :=
 (zs=[]∧∃ ad cap,sv=.slice ad 0 cap)∨∃ b off cap,sv=.slice (some ⟨b,off,none⟩) zs.length cap∧S b∧b<W.heap.size∧∀ j,j<zs.length→W.cell? ⟨b,off+j,none⟩=some (.int .i64 (e8 (zs[j]?.getD 0)))
theorem q0k (F:Fence) (n:Nat) (h8:F.fn 143) (hro:F.round=none) (hn:1≤n) (Bs:Nat) (S:Nat→Prop) (sv:Value) (zs:List Nat) (hreach:zs.length*8≤140737488351232) (w:World) (hBs:Bs<w.heap.size) (hBS:S Bs)
  (hc:w.cell? ⟨Bs,0,none⟩=some sv) (hI:q86 S w sv zs) :
  SeqStopsK F n Try.prog 143 #[.pointer (some ⟨Bs,0,none⟩)] (fun x:Int×Nat=>#[Value.int .i64 x.1,Value.int .i64 (e8 x.2)]) (qly S) (fun ys=>ys=upto (bkF zs.length zs) zs.length)
   (fun pre=>∃ k,k≤zs.length∧pre=upto (bkF zs.length zs) k) zs.length w:=fun l J Jx W hW _ _ hY h0=>by
 have hc':=(hW.cell (p:=⟨Bs,0,none⟩) hBs).trans hc
 rcases hI with ⟨rfl,ad,cap,rfl⟩ | ⟨b,off,cap,rfl,hb,hlt,hcs⟩
 ·exact (qvl F n h8 hro l Bs J W ad cap hc' h0).mono fun e W' ⟨he,hj⟩=>⟨he,.inl ⟨_,rfl,hj⟩⟩
 ·exact q6f F n h8 hro hn l Bs b off zs.length cap S zs hreach hb hBS J Jx hY W hc' (fun j hj=>(hW.cell (p:=⟨b,off+j,none⟩) hlt).trans (hcs j hj)) h0
def ops8 : Array Oper := #[{ dst := some 23, op := Op.move (Operand.tmp 7), type := 3, pos := "schur.go:196", after := #[], guard := none },
        { dst := some 24, op := Op.binOp BinOp.gtr 3 (Operand.tmp 23) (Operand.const (Value.int IntKind.i64 1)) 3, type := 4, pos := "schur.go:196", after := #[{ on := 0, ground := Ground.data }], guard := none },
        { dst := some 25, op := Op.move (Operand.tmp 24), type := 4, pos := "schur.go:196", after := #[{ on := 1, ground := Ground.data }], guard := none },
        { dst := some 26, op := Op.move (Operand.tmp 7), type := 3, pos := "schur.go:196", after := #[{ on := 2, ground := Ground.guard }], guard := some (2, true) },
        { dst := some 27, op := Op.indexAddr 148 (Operand.tmp 3) (Operand.tmp 26), type := 0, pos := "schur.go:196", after := #[{ on := 3, ground := Ground.data }, { on := 2, ground := Ground.guard }], guard := some (2, true) },
        { dst := some 28, op := Op.load 3 (Operand.tmp 27), type := 3, pos := "schur.go:196", after := #[{ on := 4, ground := Ground.data }, { on := 2, ground := Ground.guard }], guard := some (2, true) },
        { dst := some 29, op := Op.move (Operand.tmp 7), type := 3, pos := "schur.go:196", after := #[{ on := 2, ground := Ground.guard }], guard := some (2, true) },
        { dst := some 30, op := Op.binOp BinOp.sub 3 (Operand.tmp 29) (Operand.const (Value.int IntKind.i64 1)) 3, type := 3, pos := "schur.go:196", after := #[{ on := 6, ground := Ground.data }, { on := 2, ground := Ground.guard }], guard := some (2, true) },
        { dst := some 31, op := Op.indexAddr 148 (Operand.tmp 3) (Operand.tmp 30), type := 0, pos := "schur.go:196", after := #[{ on := 7, ground := Ground.data }, { on := 2, ground := Ground.guard }], guard := some (2, true) },
        { dst := some 32, op := Op.load 3 (Operand.tmp 31), type := 3, pos := "schur.go:196", after := #[{ on := 8, ground := Ground.data }, { on := 2, ground := Ground.guard }], guard := some (2, true) },
        { dst := some 33, op := Op.binOp BinOp.gtr 3 (Operand.tmp 28) (Operand.tmp 32) 3, type := 4, pos := "schur.go:196", after := #[{ on := 5, ground := Ground.data }, { on := 9, ground := Ground.data }, { on := 2, ground := Ground.guard }], guard := some (2, true) },
        { dst := some 34, op := Op.pick (Operand.tmp 25) (Operand.tmp 33) (Operand.const (Value.bool false)), type := 4, pos := "schur.go:196", after := #[{ on := 2, ground := Ground.data }, { on := 10, ground := Ground.data }], guard := none }]
end Go.Schur
