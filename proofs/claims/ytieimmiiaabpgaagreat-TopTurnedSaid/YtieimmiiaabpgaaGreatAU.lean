/- slices.Sort at ints as a contract with a block that is written to. -/
import Derived.Test.YtieimmiiaabpgaaGreatAT
import Derived.Sort.OwnSortedInts
set_option linter.unusedVariables false
set_option linter.unusedSimpArgs false
namespace Go.Ab
theorem qvr {te:Ty} {xs:List (Den te)} {opn:Bool} {n:Nat}:¬ Nest [.live (.arr te xs opn)] n:=fun ⟨_,_,_,h⟩=>by
 cases n with
 | zero=>simp at h
 | succ n=>simp at h
open Go.Sort Go.Proofs
def qic (l:List Int):List Int:=l.mergeSort fun x y=>decide (x≤y)
theorem qj2 {l:List Int}:(qic l).length=l.length:=List.length_mergeSort l
theorem qxw {l:List Int}:(qic l).Perm l:=List.mergeSort_perm l _
theorem q4i {l:List Int}:(qic l).Pairwise (·≤·):=by
 have:=List.pairwise_mergeSort (le:=fun x y:Int=>decide (x≤y)) (fun a b c h1 h2=>by simp only [wba] at *;omega) (fun a b=>by simp only [wbe,wba];omega) l
 exact this.imp fun h=>by simpa using h
noncomputable def qrw (f:FuncId) (opn:Bool):SCon:=mkS f [.slf 0 1] [.arr (.int .i64) opn] [] [.arr (.int .i64) opn] (fun (l:List Int)=>[l.length<4611686018427387904]) (fun (l:List Int)=>(qic l,()))
theorem q75 {P:Program} {f:FuncId} (hcall:qbr P f=true)
  (hs:∀ (blk off cap:Nat) (zs:List Int) (w:World),Holds (Value.int .i64) w blk off zs.toArray→blk<w.heap.size→zs.length<4611686018427387904 →
   Calls P f #[.slice (some ⟨blk,off,none⟩) zs.length cap] w fun e w'=>e=.returned (.tuple #[])∧∃ n os,w'=grow (putRow (Value.int .i64) (Sort.ahead w n) blk off (zs.mergeSort fun x y=>decide (x≤y)).toArray) os)
  (hn:∀ (p:Option Addr) (cap:Nat) (w:World),Calls P f #[.slice p 0 cap] w fun e w'=>e=.returned (.tuple #[])∧w'=w) (opn:Bool):(qrw f opn).Ok P:=by
 refine ⟨hcall,fun Γ w env p r vs em henv hpre hF hp hargs=>?_⟩
 obtain ⟨l,rfl⟩:∃ l:List Int,env=[.val (.slice (.int .i64)) l]:=by
  have henv:qc5 [.slice (.int .i64)] env:=henv
  match env,henv with
  | [x],⟨⟨y,hy⟩,_⟩=>exact ⟨y,by rw [hy]⟩
 have hpre:some [l.length<4611686018427387904]=some p:=hpre;have hF:some (qic l,())=some r:=hF;cases hpre;cases hF;have hlen:=allP_one.1 hp;have em:EmbH Γ [.live (.arr (.int .i64) l opn)] w:=em;have hargs:Fa w Γ [.sl 0 1 0 l.length none] vs:=hargs;show Calls P f vs.toArray w fun en w'=>∃ v Γ',en=.returned v∧Ext Γ [.live (.arr (.int .i64) l opn)] w Γ' [.live (.arr (.int .i64) (qic l) opn)] w'∧EmbH Γ' [.live (.arr (.int .i64) (qic l) opn)] w'∧Ra w' Γ' (.tup .nil) v
 obtain ⟨v,rfl,hr⟩:∃ v,vs=[v]∧Ra w Γ (.sl 0 1 0 l.length none) v:=by
  match vs,hargs with
  | [v],h=>exact ⟨v,rfl,h.1⟩
 obtain ⟨hA,ad,cap,rfl,hcap,had,hle⟩:=qca.1 hr;simp only [Option.getD_none,Nat.sub_zero] at hcap;have hres:∀ Γ',Ra w Γ' (.tup .nil) (.tuple #[]):=fun Γ'=>by
  simp only [Ra,Rp,wa0,and_true];exact ⟨[],rfl,rfl⟩
 obtain ⟨b1,b2,b3⟩:=em.blk 0 _ rfl
 by_cases h0:l=[]
 ·subst h0;refine (hn ad cap w).mono fun e w' ⟨he,hw⟩=>?_
  subst he;subst hw;have e0:qic []=[]:=wbf qj2;rw [e0];exact ⟨_,Γ,rfl,Ext.refl _ _ _,em,hres Γ⟩
 ·have hpos:0<l.length:=List.length_pos_iff.2 h0;have hk:Γ.κ 0≠0:=by omega
  obtain ⟨c,el,g1,g2,g3⟩:=b3 hk;have had:=had (by omega)
  subst had;have hcell:c.toList.take l.length=l.map (Value.int .i64):=by
   apply List.ext_getElem?;intro j
   by_cases hj:j<l.length
   ·rw [List.getElem?_take_of_lt hj,wao,wab hj];obtain ⟨cs,m1,m2⟩:=g3 j l[j] (wab hj);simp only [RepC] at m1;subst m1;have:=m2 0 _ rfl;simp only [sz,Nat.mul_one,Nat.add_zero] at this;rw [Array.getElem?_toList,this];rfl
   ·rw [List.getElem?_take_eq_none (by omega),wac (by simp;omega)]
  have hH:=holds_of_blockI g1 hcell;have hblk:Γ.ν 0<w.heap.size:=(Array.getElem?_eq_some_iff.1 g1).1;have hz:(0:Nat)*1=0:=rfl;rw [hz];refine (hs (Γ.ν 0) 0 cap l w hH hblk hlen).mono fun e w' ⟨he,n,os,hw⟩=>?_
  subst he;subst hw;have hheap:=heap_sortedI (w:=w) (g:=Γ.ν 0) (n:=n) (os:=os) (qic l).toArray g1;have hgr:=grownBy_sortedI (w:=w) (g:=Γ.ν 0) (n:=n) (os:=os) (qic l).toArray;have hs1:sz (.int .i64)=1:=rfl;have htk:=take_putCellsI c (qic l) (by rw [qj2];rw [hs1] at g2;omega)
  generalize hw':grow (putRow (Value.int .i64) (Sort.ahead w n) (Γ.ν 0) 0 (qic l).toArray) os=w' at hheap hgr;have hw2:grow (putRow (Value.int .i64) (Sort.ahead w n) (Γ.ν 0) 0 (l.mergeSort fun x y=>decide (x≤y)).toArray) os=w':=hw'
  rw [hw2];have hold:∀ m,m<w.heap.size→m≠Γ.ν 0→w'.heap[m]?=w.heap[m]?:=fun m hm hne=>hgr.block m hm (fun e=>hne (Option.some.inj e))
  have hsize:w.heap.size≤w'.heap.size:=hgr.size;have hlive:∀ B,Live [.live B] 0:=fun B=>⟨B,rfl⟩
  have only:∀ {B:Blk} {b:Nat},Live [.live B] b→b=0:=fun {B b} ⟨B',h⟩=>by
   cases b with
   | zero=>rfl
   | succ b=>simp at h
  have hnI:¬ Γ.I (Γ.ν 0):=em.imm 0 (hlive _) hk;refine ⟨_,Γ,rfl,⟨fun m hm hwr=>hold m hm fun e=>hwr (.inl ⟨0,hlive _,hk,e.symm⟩),hsize,by rw [← hw'];rfl,by rw [← hw'];rfl,fun m hw=>.inl ?_,fun m h=>.inl h,fun m h=>h,fun b h=>⟨h,rfl,rfl⟩⟩,⟨fun b B hB=>?_,fun b b' hb hb' _ _ _=>(only hb).trans (only hb').symm,fun b hb hkb=>?_,fun m h=>Nat.lt_of_lt_of_le (em.old m h) hsize,fun b=>?_,Rows.nil fun _=>qvr,fun m b i f h=>?_⟩,hres Γ⟩
  ·rcases hw with ⟨b,hb,hkb,he⟩ | ⟨b,hb,_⟩
   ·exact .inl ⟨b,by rw [only hb];exact hlive _,hkb,he⟩
   ·exact absurd hb qvr
  ·cases b with
   | succ b=>simp at hB
   | zero =>
    simp only [wa6,waz,Hs.live.injEq] at hB;subst hB;refine ⟨(qj2 (l:=l)).symm▸b1,fun h=>(qj2 (l:=l)).symm▸b2 h,fun _=>⟨_,el,hheap,by simp only [putCells,Array.size_mapIdx];exact g2,fun i x hx=>⟨[.int .i64 x],by simp only [RepC],fun j v hv=>?_⟩⟩⟩
    have hj:j=0:=by
     rcases Nat.eq_zero_or_pos j with h | h
     ·exact h
     ·rw [wac (by simp;omega)] at hv;cases hv
    subst hj;simp only [wa6,waz] at hv;subst hv;have hi:i<(qic l).length:=(List.getElem?_eq_some_iff.1 hx).1;have hx':(qic l)[i]?=some x:=hx;have:=congrArg (fun q=>q[i]?) htk
    simp only [List.getElem?_take_of_lt hi,wao,hx',Option.map_some] at this;rw [hs1,Nat.mul_one,Nat.add_zero,← Array.getElem?_toList];exact this
  ·rw [only hb];exact hnI
  ·refine (em.al b).trans ?_
   cases b with
   | zero=>exact ⟨fun _=>⟨_,rfl,by simp⟩,fun _=>⟨_,rfl,by simp⟩⟩
   | succ b=>simp
  ·cases m with
   | zero=>simp at h
   | succ m=>simp at h
end Go.Ab
