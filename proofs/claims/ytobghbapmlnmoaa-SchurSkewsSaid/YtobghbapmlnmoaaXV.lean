/- lattice: the walk. -/
import Derived.Test.YtobghbapmlnmoaaXW
import Derived.Test.YtobghbapmlnmoaaXC
set_option maxRecDepth 100000
namespace Go.Schur
open Go Go.Proofs Go.RowKit Go.Shelf
attribute [local go_sem] Oper.semAt_some
def ltS (c:List Int) (x:Int):Option (List Int) :=
 if 1<x∧(c.set x.toNat (wrap64 (c.getD x.toNat 0+1))).getD (x-1).toNat 0<(c.set x.toNat (wrap64 (c.getD x.toNat 0+1))).getD x.toNat 0 then none
 else some (c.set x.toNat (wrap64 (c.getD x.toNat 0+1)))
def ltR:List Int→List Int→Option (List Int)
 | c,[]=>some c
 | c,x::l=>(ltS c x).bind fun c=>ltR c l
theorem qsy:∀ {l c:List Int} {x:Int},ltR c (l++[x])=(ltR c l).bind fun c=>ltS c x
 | [],c,x=>by simp [ltR]
 | y::l,c,x=>by
  rw [wbt,ltR,ltR]
  cases ltS c y with
  | none=>rfl
  | some d=>exact qsy
def ltA (rows:List (List Int)):Option (List Int):=rows.foldl (fun o r=>o.bind fun c=>ltR c r.reverse) (some (List.replicate 9 0))
theorem qyl:∀ {l c:List Int} {k:Nat},ltR c (l.take k)=none→ltR c l=none
 | [],c,k,h=>by rw [List.take_nil] at h;exact h
 | x::l,c,0,h=>by cases h
 | x::l,c,k+1,h=>by
  rw [List.take_succ_cons,ltR] at h;rw [ltR]
  cases hx:ltS c x with
  | none=>rfl
  | some d=>rw [hx] at h;exact qyl (l:=l) (k:=k) h
theorem q2a:∀ {rows:List (List Int)},rows.foldl (fun o r=>o.bind fun c=>ltR c r.reverse) (none:Option (List Int))=none
 | []=>rfl
 | r::rows=>by rw [wcg];exact q2a
theorem qmv {rows:List (List Int)} {r:List Int}:ltA (rows++[r])=(ltA rows).bind fun c=>ltR c r.reverse:=by
 unfold ltA;rw [List.foldl_append];rfl
theorem q4d {rows rest:List (List Int)} (h:ltA rows=none):ltA (rows++rest)=none:=by
 unfold ltA at h ⊢;rw [List.foldl_append,h];exact q2a
def dig (rows:List (List Nat)):List (List Int):=rows.map fun r=>r.map e8
theorem qxx {rows:List (List Nat)} {i:Nat} (h:i<rows.length):dig (rows.take (i+1))=dig (rows.take i)++[(rows[i]).map e8]:=by
 unfold dig;rw [List.take_succ_eq_append_getElem h,wbx];rfl
theorem qte {zs:List Nat} {k:Nat} (hk:k≤zs.length):(upto (bkF zs.length zs) k).map (fun x=>e8 x.2)=(zs.map e8).reverse.take k:=by
 apply List.ext_getElem
 ·simp [upto];omega
 ·intro i h1 h2;simp [upto] at h1;have:zs.length-1-i<zs.length:=by omega
  simp [upto,this]
theorem q5b {zs:List Nat}:(upto (bkF zs.length zs) zs.length).map (fun x=>e8 x.2)=(zs.map e8).reverse:=by
 rw [qte (wae _),wal (by simp)]
structure LW (w:World) (rb:Bool) (c:List Int) (Ds:List Nat) (W:World):Prop where
 below:Below w.heap.size w W
 sz:w.heap.size+2≤W.heap.size
 res:W.cell? ⟨w.heap.size,0,none⟩=some (.bool rb)
 resf:W.frozen? ⟨w.heap.size,0,none⟩=false
 cnt:∀ j,j<9→W.cell? ⟨w.heap.size+1,j,none⟩=some (.int .i64 (c[j]?.getD 0))
 cntf:∀ j,j<9→W.frozen? ⟨w.heap.size+1,j,none⟩=false
 clen:c.length=9
 mks:∀ D∈Ds,w.heap.size+2≤D∧W.heap[D]?=some (.deferred (some []))
 dec:Ds.Pairwise (· > ·)
def zcq (Ds:List Nat):List Deferred:=Ds.map fun D=>{ target:=.collected D,args:=#[] }
theorem q3g {W:World} {D:Nat} {o:Obj} (h:W.heap[D]?=some o):D<W.heap.size:=(Array.getElem?_eq_some_iff.1 h).1
theorem LW.grown {w:World} {rb:Bool} {c:List Int} {Ds:List Nat} {W W':World} {row:Option Nat} (h:LW w rb c Ds W) (hg:W.grownBy W' row) (hr:∀ r,row=some r→w.heap.size+2≤r∧∀ D∈Ds,D≠r):LW w rb c Ds W':=by
 have hs:=h.sz;have hb:∀ k,k<w.heap.size+2→W'.heap[k]?=W.heap[k]?:=fun k hk=>hg.block k (by omega) (fun e=>by have:=(hr k e.symm).1;omega)
 have hc:∀ (k o:Nat),k<w.heap.size+2→W'.cell? ⟨k,o,none⟩=W.cell? ⟨k,o,none⟩:=fun k o hk=>World.cell?_of_block (hb k hk)
 have hf:∀ (k o:Nat),k<w.heap.size+2→W'.frozen? ⟨k,o,none⟩=W.frozen? ⟨k,o,none⟩:=fun k o hk=>World.frozen?_of_block (hb k hk)
 refine ⟨h.below.trans ⟨hg.os,hg.tape,hg.output,hg.size,fun k hk=>hb k (by omega)⟩,Nat.le_trans hs hg.size,(hc _ _ (by omega)).trans h.res,(hf _ _ (by omega)).trans h.resf,fun j hj=>(hc _ _ (by omega)).trans (h.cnt j hj),fun j hj=>(hf _ _ (by omega)).trans (h.cntf j hj),h.clen,fun D hD=>?_,h.dec⟩
 obtain ⟨h1,h2⟩:=h.mks D hD;exact ⟨h1,(hg.block D (q3g h2) (fun e=>(hr D e.symm).2 D hD rfl)).trans h2⟩
theorem LW.setCnt {w:World} {rb:Bool} {c:List Int} {Ds:List Nat} {W:World} (h:LW w rb c Ds W) {j:Nat} (hj:j<9) (v:Int):LW w rb (c.set j v) Ds (W.setCell ⟨w.heap.size+1,j,none⟩ (.int .i64 v)):=by
 have hh:∀ k,k≠w.heap.size+1→(W.setCell ⟨w.heap.size+1,j,none⟩ (.int .i64 v)).heap[k]?=W.heap[k]?:=fun k hk=>Below.heap_setCell _ _ _ _ hk
 refine ⟨h.below.setCell (p:=⟨w.heap.size+1,j,none⟩) (by simp) _,by simpa [World.setCell] using h.sz,(World.cell?_of_block (hh _ (by simp))).trans h.res,(World.frozen?_of_block (hh _ (by simp))).trans h.resf,fun i hi=>?_,fun i hi=>by rw [World.frozen?_setCell];exact h.cntf i hi,by rw [wak];exact h.clen,fun D hD=>?_,h.dec⟩
 ·by_cases hij:i=j
  ·subst hij;rw [World.cell?_setCell_same _ _ _ (h.cnt i hi),List.getElem?_set_self (by rw [h.clen];exact hi)];rfl
  ·rw [World.cell?_setCell_other _ _ _ _ (fun e=>hij (by cases e;rfl)),h.cnt i hi,wai (fun e=>hij e.symm)]
 ·obtain ⟨h1,h2⟩:=h.mks D hD;exact ⟨h1,(hh D (by omega)).trans h2⟩
theorem LW.setRes {w:World} {rb:Bool} {c:List Int} {Ds:List Nat} {W:World} (h:LW w rb c Ds W) (v:Bool):LW w v c Ds (W.setCell ⟨w.heap.size,0,none⟩ (.bool v)):=by
 have hh:∀ k,k≠w.heap.size→(W.setCell ⟨w.heap.size,0,none⟩ (.bool v)).heap[k]?=W.heap[k]?:=fun k hk=>Below.heap_setCell _ _ _ _ hk
 refine ⟨h.below.setCell (p:=⟨w.heap.size,0,none⟩) (by simp) _,by simpa [World.setCell] using h.sz,World.cell?_setCell_same _ _ _ h.res,by rw [World.frozen?_setCell];exact h.resf,fun i hi=>(World.cell?_of_block (hh _ (by simp))).trans (h.cnt i hi),fun i hi=>by rw [World.frozen?_setCell];exact h.cntf i hi,h.clen,fun D hD=>?_,h.dec⟩
 obtain ⟨h1,h2⟩:=h.mks D hD;exact ⟨h1,(hh D (by omega)).trans h2⟩
theorem LW.addMark {w:World} {rb:Bool} {c:List Int} {Ds:List Nat} {W:World} (h:LW w rb c Ds W) {D:Nat} (h1:w.heap.size+2≤D) (h2:W.heap[D]?=some (.deferred (some []))) (h3:∀ E∈Ds,E<D):LW w rb c (D::Ds) W :=
 { h with mks:=fun E hE=>(List.mem_cons.1 hE).elim (fun e=>e▸⟨h1,h2⟩) (h.mks E),dec:=List.pairwise_cons.2 ⟨fun E hE=>h3 E hE,h.dec⟩ }
theorem LW.ownFrom {w:World} {rb:Bool} {β:Type} {f:β→List Int→Prop} {Ds:List Nat} {B:Nat} (hB:w.heap.size+2≤B) (hD:∀ D∈Ds,D<B):OwnFrom B (fun (x:β) W=>∃ c,f x c∧LW w rb c Ds W):=by
 rintro s W W' row ⟨c,hf,h⟩ hg hr;exact ⟨c,hf,h.grown hg fun r e=>⟨by have:=(hr r e).1;omega,fun D hDD=>by have:=(hr r e).1;have:=hD D hDD;omega⟩⟩
theorem qjj {F:Fence} {n:Nat} {P:Program} {fn:Func} {tmps:Array Value} {R:Ending→World→Prop} {w:World} {rb:Bool} {c:List Int}
  (hend:∀ W,LW w rb c [] W→LeavesIn F n P fn tmps R [] .returning W):∀ (Ds:List Nat) (W:World),LW w rb c Ds W→LeavesInM F n P fn tmps R (zcq Ds) .returning W
 | [],W,h=>hend W h
 | D::Ds,W,h=>by
  obtain ⟨h1,h2⟩:=h.mks D (wa7 ..);have hd:=List.pairwise_cons.1 h.dec;refine ⟨by simp,.inl ⟨_,_,rfl,run_takeDeferred h2,qjj hend Ds _ ?_⟩⟩
  have h':LW w rb c Ds W:={ h with mks:=fun E hE=>h.mks E (wan _ hE),dec:=hd.2 }
  exact h'.grown (grownBy_putObj' W D (.deferred none)) fun r e=>by
   cases e;exact ⟨h1,fun E hE=>by have:=hd.1 E hE;omega⟩
theorem qp8 {F:Fence} {n:Nat} {P:Program} {code:Code} {Q:Exit→Act→World→Prop} (Good:Nat→Act→World→Prop) (hz:∀ a W,¬ Good 0 a W)
  (hstep:∀ m a W,Good (m+1) a W→code.wpIn F n P (Exit.then (Good m) Q) a W):∀ (m:Nat) (a:Act) (W:World),Good m a W→Code.roundsIn F n P code Q m a W
 | 0,a,W,h=>(hz a W h).elim
 | m+1,a,W,h=>wpIn_mono (hstep m a W h) fun e a' W' he=>by
   cases e with
   | normal=>exact qp8 Good hz hstep m a' W' he
   | _=>exact he
theorem q91 {rows:List (List Nat)} {i:Nat} (h:i<rows.length):rows[i]?=some rows[i]:=wab h
set_option pp.maxSteps 200000
set_option pp.deepTerms true
set_option maxHeartbeats 4000000 in
theorem zcg (F : Fence) (n:Nat) (h116 : F.fn 116) (h134 : F.fn 134) (h143 : F.fn 143) (hro : F.round = none) (hn : 3 ≤ n) (ad : Option Addr) (b off cap:Nat) (w : World) (rows : List (List Nat)) (had : rows ≠ [] → ad = some ⟨b, off, none⟩)
    (hlen:rows.length*24≤140737488351232) (hb:rows≠[]→b<w.heap.size) (hrow:∀ (i:Nat) (r:List Nat),rows[i]?=some r→r.length*8≤140737488351232∧∃ rv,w.cell? ⟨b,off+i,none⟩=some rv∧q86 (·<w.heap.size) w rv r) :
    CallsIn F n Try.prog 116 #[.slice ad rows.length cap] w fun e W'=>e=.returned (.bool (ltA (dig rows)).isSome)∧Below w.heap.size w W':=by
  have h1:1≤n:=by omega
  refine callsIn_of_wp_marks Try.func116 rfl h116 ?_ hro;simp only [Try.ntmps116,List.size_toArray,wbf,wbm,Nat.reduceAdd,Nat.reduceSub,Array.replicate_succ,Array.replicate_zero,List.push_toArray,List.append_toArray,wbu,wbt]
  gi_wp2
  refine wpIn_loop_rounds (rows.length+1) ?_;have hL0:LW w false (List.replicate 9 0) [] ((w.alloc (Obj.cells #[Value.bool false] 4)).alloc (Obj.cells #[Value.int IntKind.i64 0,Value.int IntKind.i64 0,Value.int IntKind.i64 0,Value.int IntKind.i64 0,Value.int IntKind.i64 0,Value.int IntKind.i64 0,Value.int IntKind.i64 0,Value.int IntKind.i64 0,Value.int IntKind.i64 0] 148)):=by
    have hs1:∀ o:Obj,(w.alloc o).heap.size=w.heap.size+1:=fun o=>by simp
    refine ⟨((Below.refl _ _).alloc (wae _) _).alloc (by rw [hs1];omega) _,by simp,?_,?_,?_,?_,rfl,fun D hD=>(nomatch hD),List.Pairwise.nil⟩
    all_goals
      have hn:∀ (W:World) (o:Obj),(W.alloc o).heap[W.heap.size]?=some o:=fun W o=>by show (W.heap.push o)[W.heap.size]?=_;simp
      have hA:((w.alloc (Obj.cells #[Value.bool false] 4)).alloc (Obj.cells #[Value.int IntKind.i64 0,Value.int IntKind.i64 0,Value.int IntKind.i64 0,Value.int IntKind.i64 0,Value.int IntKind.i64 0,Value.int IntKind.i64 0,Value.int IntKind.i64 0,Value.int IntKind.i64 0,Value.int IntKind.i64 0] 148)).heap[w.heap.size]?=some (Obj.cells #[Value.bool false] 4):=(Below.heap_alloc _ _ _ (by rw [hs1];omega)).trans (hn w _)
      have hB:((w.alloc (Obj.cells #[Value.bool false] 4)).alloc (Obj.cells #[Value.int IntKind.i64 0,Value.int IntKind.i64 0,Value.int IntKind.i64 0,Value.int IntKind.i64 0,Value.int IntKind.i64 0,Value.int IntKind.i64 0,Value.int IntKind.i64 0,Value.int IntKind.i64 0,Value.int IntKind.i64 0] 148)).heap[w.heap.size+1]?=some (Obj.cells #[Value.int IntKind.i64 0,Value.int IntKind.i64 0,Value.int IntKind.i64 0,Value.int IntKind.i64 0,Value.int IntKind.i64 0,Value.int IntKind.i64 0,Value.int IntKind.i64 0,Value.int IntKind.i64 0,Value.int IntKind.i64 0] 148):=by rw [← hs1 (Obj.cells #[Value.bool false] 4)];exact hn _ _
    · simp only [World.cell?,hA];rfl
    · simp only [World.frozen?,hA];rfl
    · intro j hj
      have:j=0∨j=1∨j=2∨j=3∨j=4∨j=5∨j=6∨j=7∨j=8:=by omega
      rcases this with rfl | rfl | rfl | rfl | rfl | rfl | rfl | rfl | rfl<;>(simp only [World.cell?,hB];rfl)
    · intro j hj
      have:j=0∨j=1∨j=2∨j=3∨j=4∨j=5∨j=6∨j=7∨j=8:=by omega
      rcases this with rfl | rfl | rfl | rfl | rfl | rfl | rfl | rfl | rfl<;>(simp only [World.frozen?,hB];rfl)
  refine qp8 (fun m a W=>∃ (i:Nat) (c:List Int) (Ds:List Nat) (v5 v11 v12 v13 v14 v15 v35:Value),m+i=rows.length+1∧i≤rows.length∧ltA (dig (rows.take i))=some c∧LW w false c Ds W ∧
    a = { tmps := #[Value.slice ad rows.length cap, undef, Value.pointer (some ⟨w.heap.size, 0, none⟩), Value.pointer (some ⟨w.heap.size + 1, 0, none⟩), undef, v5, undef, undef,
          Value.slice ad rows.length cap,Value.int IntKind.i64 (rows.length:Nat),Value.int IntKind.i64 (i:Nat),v11,v12,v13,v14,v15,undef,undef,undef,undef,undef,undef,undef,
          undef,undef,undef,undef,undef,undef,undef,undef,undef,undef,undef,undef,v35],defers:=zcq Ds }) ?hz ?hstep _ _ _ ?start
  case start=>exact ⟨0,_,[],_,_,_,_,_,_,_,rfl,Nat.zero_le _,rfl,hL0,rfl⟩
  case hz=>rintro a W ⟨i,c,Ds,v5,v11,v12,v13,v14,v15,v35,h2,h3,_⟩;omega
  case hstep =>
    rintro m _ W ⟨i,c,Ds,v5,v11,v12,v13,v14,v15,v35,h2,h3,h4,h5,rfl⟩
    by_cases hlt:i<rows.length
    · have hne:rows≠[]:=fun h=>by rw [h] at hlt;cases hlt
      obtain rfl:=had hne;have hb:=hb hne;obtain ⟨hr8,rv,hcell,hI⟩:=hrow i _ (q91 hlt);have hcell':W.cell? ⟨b,off+i,none⟩=some rv:=(h5.below.cell (p:=⟨b,off+i,none⟩) hb).trans hcell;obtain ⟨ra,rc,hrv⟩:∃ ra rc,rv=.slice ra (rows[i]).length rc:=by
        rcases hI with ⟨h,ad,cap,rfl⟩ | ⟨b',off',cap',rfl,_⟩
        · exact ⟨ad,cap,by rw [h];rfl⟩
        · exact ⟨_,_,rfl⟩
      subst hrv
      gi_wp2_with (gi_at_call 134;refine (qw9 F (n-1) h134 hro _ _ _ _).mono ?_;rintro e w' ⟨rfl,rfl⟩)
      have hsz:=h5.sz;have hDs:∀ D∈Ds,D<W.heap.size:=fun D hD=>q3g (h5.mks D hD).2
      have bx:=Boxed.new W 22 (.slice ra rows[i].length rc);have hS:∀ (k:Nat),k<w.heap.size∨k=W.heap.size→k<W.heap.size+1:=fun k h=>by omega
      have hI':q86 (fun k=>k<w.heap.size∨k=W.heap.size) (W.alloc (.cells #[.slice ra rows[i].length rc] 22)) (.slice ra rows[i].length rc) rows[i]:=by
        rcases hI with h | ⟨b',off',cap',h6,h7,h8,h9⟩
        · exact .inl h
        · refine .inr ⟨b',off',cap',h6,.inl h7,by simp;omega,fun j hj=>?_⟩
          rw [← h9 j hj];exact ((h5.below.alloc (B:=w.heap.size) (by omega) _).cell (p:=⟨b',off'+j,none⟩) h7)
      refine wpIn_rangeFunc_ownG hro h1 (gf:=143) (lb:=#[.pointer (some ⟨W.heap.size,0,none⟩)]) rfl h143 (enters_of Try.func143 (by kernel_rfl) rfl)
        (q0k F (n-1) h143 hro (by omega) W.heap.size (fun k=>k<w.heap.size∨k=W.heap.size) _ rows[i] hr8 _ (by simp) (.inr rfl) bx.cell hI') qly.trans
        (fun W2 l o o' hl hl2 _ _=>fun k hk=>World.putObj_heap_other (fun e=>by have:=hS k hk;simp at hl;omega)) (Below.refl _ _) (fun _=>rfl)
        (fun pre W2=>∃ c2,ltR c (pre.map fun x=>e8 x.2)=some c2∧LW w false c2 Ds W2)
        (fun cc pre W2=>∃ c2,(cc=.ret∧ltR c (pre.map fun x=>e8 x.2)=none)∧LW w false c2 Ds W2)
        (LW.ownFrom (by simp;omega) (fun D hD=>by have:=hDs D hD;simp;omega))
        (fun cc=>LW.ownFrom (by simp;omega) (fun D hD=>by have:=hDs D hD;simp;omega))
        ⟨c,rfl,h5.grown (World.grownBy_alloc W _ none) (fun r e=>by cases e)⟩
        (fun x=>{ tmps:=#[Value.slice (some ⟨b,off,none⟩) rows.length cap,undef,Value.pointer (some ⟨w.heap.size,0,none⟩),Value.pointer (some ⟨w.heap.size+1,0,none⟩),undef,Value.slice ra rows[i].length rc,undef,.int .i64 (e8 x.2),
          Value.slice (some ⟨b,off,none⟩) rows.length cap,Value.int IntKind.i64 (rows.length:Nat),Value.int IntKind.i64 (i:Nat),Value.bool true,Value.pointer (some ⟨b,off+i,none⟩),Value.slice ra rows[i].length rc,Value.slice ra rows[i].length rc,
          Value.func (Fn.func 143) #[] #[Value.pointer (some ⟨W.heap.size,0,none⟩)],.int .i64 x.1,.int .i64 (e8 x.2),undef,undef,undef,undef,undef,undef,undef,undef,undef,undef,undef,undef,undef,undef,undef,undef,undef,v35],defers:=[] }) ?assign ?body ?done ?stop
      case assign =>
        intro l x W K hK
        gi_wp2
        exact hK
      case done =>
        rintro D ys W2 hD rfl ⟨c2,hl,hW2⟩ hK
        gi_wp2
        rw [q5b] at hl;refine ⟨i+1,c2,D::Ds,_,_,_,_,_,_,_,by omega,by omega,?_,hW2.addMark (by simp at hD;omega) hK (fun E hE=>by have:=hDs E hE;simp at hD;omega),by rw [Int.natCast_add];rfl⟩
        rw [qxx hlt,qmv,h4];exact hl
      case stop =>
        rintro D cc pre W2 hD ⟨k,hk,rfl⟩ ⟨c2,⟨rfl,hl⟩,hW2⟩ hK
        gi_wp2
        have hn:ltA (dig rows)=none:=by
          have e1:dig rows=dig (rows.take (i+1))++dig (rows.drop (i+1)):=by unfold dig;rw [← wbx,List.take_append_drop]
          rw [e1];refine q4d ?_;rw [qxx hlt,qmv,h4];rw [qte hk] at hl;exact qyl hl
        refine qjj (rb:=false) (c:=c2) (fun W3 h3=>⟨.bool false,?_,by rw [hn];rfl,h3.below⟩) (D::Ds) W2 (hW2.addMark (by simp at hD;omega) hK (fun E hE=>by have:=hDs E hE;simp at hD;omega))
        have hc5:=h3.res;simp [results,Try.f116,go_sem,hc5]
      case body =>
        rintro l pre x W2 ⟨c2,hl,hW2⟩ _;obtain ⟨j,hj,hj1,hj8⟩:∃ j:Nat,e8 x.2=(j:Int)∧1≤j∧j≤8:=⟨x.2 % 8+1,rfl,by omega,by omega⟩
        have hj9:j<9:=by omega
        have hres:=hW2.res;have hresf:=hW2.resf;have hcj:=hW2.cnt j hj9;have hfj:=hW2.cntf j hj9;have hmx:Try.prog.follows .mixedOrders=true:=by kernel_rfl
        have hW3:=hW2.setCnt hj9 (wrap64 (c2[j]?.getD 0+1));have hc:=hW3.cnt j hj9;have hcp:=hW3.cnt (j-1) (by omega)
        rw [hj]
        gi_wp2
        have hk3:∀ k,k≠w.heap.size+1→(W2.setCell { block:=w.heap.size+1,off:=j } (Value.int IntKind.i64 (wrap64 (c2[j]?.getD 0+1)))).heap[k]?=W2.heap[k]?:=fun k hk=>Below.heap_setCell _ _ _ _ hk
        have hz3:W2.heap.size≤(W2.setCell { block:=w.heap.size+1,off:=j } (Value.int IntKind.i64 (wrap64 (c2[j]?.getD 0+1)))).heap.size:=by simp [World.setCell]
        generalize W2.setCell { block:=w.heap.size+1,off:=j } (Value.int IntKind.i64 (wrap64 (c2[j]?.getD 0+1)))=W3 at *;have hd3:∀ {c Ds},LW w false c Ds W3→LW w false c Ds W3.drew:=fun h=>h.grown (W':=W3.drew) (row:=none) ⟨rfl,rfl,rfl,wae _,fun k _ _=>rfl⟩ (fun r e=>by cases e)
        have hW4:=hd3 hW3;have hk4:∀ k,k≠w.heap.size+1→W3.drew.heap[k]?=W2.heap[k]?:=hk3;have hz4:W2.heap.size≤W3.drew.heap.size:=hz3;have hB:(W.alloc (Obj.cells #[Value.slice ra rows[i].length rc] 22)).heap.size=W.heap.size+1:=by simp
        have hr4:=hW4.res;have hf4:=hW4.resf;have hS3:∀ k,(k<w.heap.size∨k=W.heap.size)→k≠w.heap.size+1∧k≠w.heap.size:=fun k h=>by omega
        have hlat:ltR c (List.map (fun x=>e8 x.snd) (pre++[x]))=ltS c2 (j:Int):=by
          rw [wbx,wbv,List.map_nil,qsy,hl,hj];rfl
        by_cases h1j:j=1
        · subst h1j
          refine zbb F l _ hro hmx _ _ _ _ _ _ _ _ _ _ _ _ _ _ _ _ _ _ _ _ _ _ _ W3 0 0 _ _ ?_;generalize W3.drew=W4 at hW4 hk4 hz4 hr4 hf4 ⊢
          gi_wp2
          refine ⟨⟨hz4,fun k o hB hk _=>(hk4 k (by first | omega | (simp at hB;omega))).trans hk⟩,fun k hk=>hk4 k (hS3 k hk).1,_,?_,hW4⟩
          rw [hlat];unfold ltS;rw [if_neg (by omega)]
          simp
        · refine reg8 F l _ hro hmx _ _ _ _ _ _ _ _ _ _ _ _ _ _ _ _ _ _ _ _ _ _ _ W3 _ _ j (by omega) hj8 hc hcp _ _ ?_
          generalize W3.drew=W4 at hW4 hk4 hz4 hr4 hf4 ⊢;have e1:((j:Int)-1).toNat=j-1:=by omega
          have e2:(j:Int).toNat=j:=by omega
          by_cases hcmp:(c2.set j (wrap64 (c2[j]?.getD 0+1)))[j-1]?.getD 0<(c2.set j (wrap64 (c2[j]?.getD 0+1)))[j]?.getD 0
          · rw [decide_eq_true hcmp]
            gi_wp2
            refine ⟨⟨by simpa [World.setCell] using hz4,fun k o hB hk _=>(Below.heap_setCell _ _ _ _ (by simp at hB;simp;omega)).trans ((hk4 k (by simp at hB;omega)).trans hk)⟩,_,⟨rfl,?_⟩,hW4.setRes false⟩
            rw [hlat];unfold ltS;rw [e1,e2,if_pos ⟨by omega,by simpa using hcmp⟩]
          · rw [decide_eq_false hcmp]
            gi_wp2
            refine ⟨⟨hz4,fun k o hB hk _=>(hk4 k (by first | omega | (simp at hB;omega))).trans hk⟩,fun k hk=>hk4 k (hS3 k hk).1,_,?_,hW4⟩
            rw [hlat];unfold ltS;rw [e1,e2,if_neg (fun h=>absurd h.2 (Int.not_lt.2 (by simpa using hcmp)))]
            simp
    · obtain rfl:i=rows.length:=by omega
      have hres:=h5.res;have hresf:=h5.resf
      gi_wp2
      rw [wbl] at h4;refine qjj (rb:=true) (c:=c) (fun W3 h3=>⟨.bool true,?_,by rw [h4];rfl,h3.below⟩) Ds _ (h5.setRes true)
      have hc5:=h3.res;simp [results,Try.f116,go_sem,hc5]
set_option linter.unusedVariables false
set_option linter.unusedSimpArgs false
open Go Go.Ab Go.Proofs Go.RowKit Go.Shelf
def latI (rows:List (List Int)):Bool:=(ltA rows).isSome
noncomputable def qvo:Con:=mkC 116 [.d LLI] [.bool] (fun (rows:List (List Int))=>[ent8 rows]) (fun (rows:List (List Int))=>(latI rows,()))
def natR (rows:List (List Int)):List (List Nat):=rows.map fun r=>r.map fun x=>(x-1).toNat
theorem q75 {x:Int} (h1:1≤x) (h2:x≤8):e8 (x-1).toNat=x:=by unfold e8;omega
theorem qr0 {A:Type} {f:A→A}:∀ {l:List A},(∀ x∈l,f x=x)→l.map f=l
 | [],_=>rfl
 | x::l,h=>by rw [wbv,h x (wa7 ..),qr0 fun y hy=>h y (wan _ hy)]
theorem q85 {rows:List (List Int)} (h:ent8 rows):dig (natR rows)=rows:=by
 unfold dig natR;rw [List.map_map];refine qr0 fun r hr=>?_
 show (r.map _).map e8=r;rw [List.map_map];exact qr0 fun x hx=>q75 ((h.2 r hr).2 x hx).1 ((h.2 r hr).2 x hx).2
theorem qz0 {w:World} {I:Nat→Prop} {rows:List (List Int)} {cs:List Value} (hR:RepC w I LLI rows cs):∃ ad cap,cs=[.slice ad rows.length cap] ∧
  ∀ (i:Nat) (r:List Int),rows[i]?=some r→∃ b off,ad=some ⟨b,off,none⟩∧I b∧∃ ad2 cap2,w.cell? ⟨b,off+i,none⟩=some (.slice ad2 r.length cap2) ∧
   ∀ (j:Nat) (x:Int),r[j]?=some x→∃ b2 off2,ad2=some ⟨b2,off2,none⟩∧I b2∧w.cell? ⟨b2,off2+j,none⟩=some (.int .i64 x):=by
 simp only [RepC] at hR;obtain ⟨ad,cap,rfl,hle,had,hel⟩:=hR;refine ⟨ad,cap,rfl,fun i r hr=>?_⟩
 obtain ⟨b,off,c,h1,h2,h3,h4⟩:=hel i r hr;obtain ⟨ad2,cap2,rfl,hle2,had2,hel2⟩:=h3;refine ⟨b,off,h1,h2,ad2,cap2,?_,fun j x hx=>?_⟩
 ·have:=h4 0 _ rfl;simp only [sz,Nat.mul_one,Nat.add_zero] at this;exact this
 ·obtain ⟨b3,off3,c3,k1,k2,rfl,k4⟩:=hel2 j x hx;refine ⟨b3,off3,k1,k2,?_⟩;have:=k4 0 _ rfl;simp only [sz,Nat.mul_one,Nat.add_zero] at this;exact this
theorem q9u {Γ:Cx} {w:World} (em:EmbH Γ [] w) {rows:List (List Int)} (h8:ent8 rows) {v:Value} (h0:Ra w Γ (.val LLI rows) v) :
  Calls Try.prog 116 #[v] w fun e w'=>e=.returned (.bool (latI rows))∧Below w.heap.size w w':=by
 simp only [Ra,Rp,wa9,and_true] at h0;obtain ⟨v,rfl,cs,hR,rfl⟩:=h0;obtain ⟨ad,cap,rfl,hel⟩:=qz0 hR;have hn:(natR rows).length=rows.length:=by simp [natR]
 have hne:natR rows≠[]→rows≠[]:=fun h h'=>h (by rw [h'];rfl)
 have hget:∀ i,i<rows.length→rows[i]?=some (rows.getD i []):=fun i hi=>by rw [waa,wab hi];rfl
 obtain ⟨b,off,hb1,hb2⟩:∃ b off,(natR rows≠[]→ad=some ⟨b,off,none⟩)∧(natR rows≠[]→b<w.heap.size):=by
  by_cases h:rows=[]
  ·exact ⟨0,0,fun h'=>absurd h (hne h'),fun h'=>absurd h (hne h')⟩
  ·obtain ⟨b,off,h1,h2,_⟩:=hel 0 _ (hget 0 (List.length_pos_iff.2 h));exact ⟨b,off,fun _=>h1,fun _=>em.old b h2⟩
 have hrun:=zcg Fence.wide 3 trivial trivial trivial rfl (wae _) ad b off cap w (natR rows) hb1 (by rw [hn];have:=h8.1;omega) hb2 (by
  intro i q hq;have hi:i<rows.length:=by
   have:=(List.getElem?_eq_some_iff.1 hq).1
   rwa [hn] at this
  have hq':q=(rows.getD i []).map fun x=>(x-1).toNat:=by
   simp only [natR,waq,hget i hi,Option.map_some,wa8] at hq;exact hq.symm
  have hmem:rows.getD i []∈rows:=wb8 (hget i hi);have h8r:=h8.2 _ hmem;obtain ⟨b',off',h1,h2,ad2,cap2,h3,h4⟩:=hel i _ (hget i hi);have hne':natR rows≠[]:=fun h=>by
   have:=congrArg List.length h;rw [hn] at this;simp at this;rw [this] at hi;simp at hi
  have h5:=(hb1 hne').symm.trans h1;simp only [wa8,Addr.mk.injEq] at h5;obtain ⟨rfl,rfl,_⟩:=h5;have hql:q.length=(rows.getD i []).length:=by rw [hq',war]
  refine ⟨by rw [hql];omega,.slice ad2 (rows.getD i []).length cap2,h3,?_⟩
  generalize rows.getD i []=r at *
  by_cases hz:r=[]
  ·left;subst hz;exact ⟨by rw [hq'];rfl,ad2,cap2,rfl⟩
  ·right;have hg:∀ j,j<r.length→r[j]?=some (r.getD j 0):=fun j hj=>by rw [waa,wab hj];rfl
   obtain ⟨b2,off2,g1,g2,g3⟩:=h4 0 _ (hg 0 (List.length_pos_iff.2 hz));refine ⟨b2,off2,cap2,by rw [g1,hql],em.old b2 g2,em.old b2 g2,fun j hj=>?_⟩
   rw [hql] at hj;obtain ⟨b3,off3,k1,k2,k3⟩:=h4 j _ (hg j hj);have h5:=g1.symm.trans k1;simp only [wa8,Addr.mk.injEq] at h5;obtain ⟨rfl,rfl,_⟩:=h5;have hx:=h8r.2 _ (wb8 (hg j hj));rw [k3,hq',waq,hg j hj,Option.map_some,Option.getD_some,q75 hx.1 hx.2])
 rw [q85 h8,hn] at hrun;exact callsIn_wide.1 hrun
theorem zdg:qvo.Ok Try.prog:=by
 refine ⟨by kernel_rfl,?_⟩
 intro Γ w env p r vs hA em henv hpre hF hp hargs
 match env,henv with
 | [x],henv =>
  obtain ⟨⟨rows,rfl⟩,_⟩:=henv;have hp':[ent8 rows]=p:=by
   have:qvo.pre [.val LLI rows]=some [ent8 rows]:=by rfl
   rw [this] at hpre;exact Option.some.inj hpre
  have hr:(latI rows,())=r:=by
   have:qvo.F [.val LLI rows]=some (latI rows,()):=by rfl
   rw [this] at hF;exact Option.some.inj hF
  subst hp';subst hr;have h8:ent8 rows:=Ab.allP_one.1 hp
  match vs,hargs with
  | [v],hargs =>
   have h0:Ra w Γ (.val LLI rows) v:=hargs.1;refine (q9u em h8 h0).mono fun e w' he=>?_
   obtain ⟨rfl,hB⟩:=he;obtain ⟨hx,he⟩:=qlh em (w':=w') (I:=Γ.I) hB.block hB.size hB.os hB.output (fun _ h=>h) (fun _ h=>.inl h) (fun n h=>Nat.lt_of_lt_of_le (em.old n h) hB.size)
   refine ⟨_,_,rfl,hx,he,?_⟩;show Rp _ _ (.val .bool (latI rows)) _;simp only [Rp];exact ⟨_,rfl,[.bool (latI rows)],by simp only [RepC],rfl⟩
end Go.Schur
