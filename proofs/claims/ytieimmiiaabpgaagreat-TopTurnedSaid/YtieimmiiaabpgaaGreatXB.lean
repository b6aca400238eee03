/- DERIVED: THE SHELF's CONTRACTS AT THIS DUMP,IN PLAIN WORDS. -/
import Derived.Shelf.Small.Bits
import Derived.Shelf.Sort.Plain
import Derived.Shelf.Slices.In.SortNone2
import Derived.Test.YtieimmiiaabpgaaGreatProg
import Derived.Test.YtieimmiiaabpgaaGreatAV
import Derived.Test.YtieimmiiaabpgaaGreatAU
import Derived.Test.YtieimmiiaabpgaaGreatPA
namespace Go.Proofs
open Go.Shelf
def Tryz.lays125_ren:Go.Shelf.Ren:=⟨fun | 125=>55 | 128=>92 | 129=>93 | n=>n,fun | 46=>22 | 3=>3 | 51=>116 | 53=>118 | 4=>4 | 5=>5 | 9=>9 | n=>n,fun | n=>n⟩
theorem Tryz.lays125:Go.Proofs.Lays.n125 Tryz.prog Tryz.lays125_ren:={
 mixed:=by kernel_rfl
 f125:=Tryz.func55.trans (congrArg some (by kernel_rfl))
 f128:=Tryz.func92.trans (congrArg some (by kernel_rfl))
 f129:=Tryz.func93.trans (congrArg some (by kernel_rfl))
 t3:=Tryz.underlying3
 a3:=Tryz.isAgg3
 z3:=Tryz.sizeOf3
 v3:=Tryz.zeroValue3
 t4:=Tryz.underlying4
 a4:=Tryz.isAgg4
 z4:=Tryz.sizeOf4
 v4:=Tryz.zeroValue4
 t5:=Tryz.underlying5
 a5:=Tryz.isAgg5
 z5:=Tryz.sizeOf5
 v5:=Tryz.zeroValue5
 t9:=Tryz.underlying9
 a9:=Tryz.isAgg9
 z9:=Tryz.sizeOf9
 v9:=Tryz.zeroValue9
 t46:=Tryz.underlying22
 a46:=Tryz.isAgg22
 z46:=Tryz.sizeOf22
 v46:=Tryz.zeroValue22
 t51:=Tryz.underlying116
 a51:=Tryz.isAgg116
 z51:=Tryz.sizeOf116
 v51:=Tryz.zeroValue116
 t53:=Tryz.underlying118
 a53:=Tryz.isAgg118
 z53:=Tryz.sizeOf118
 v53:=Tryz.zeroValue118 }
def Tryz.lays189_ren:Go.Shelf.Ren:=⟨fun | 189=>29 | 125=>55 | 257=>54 | 128=>92 | 129=>93 | 294=>83 | 295=>84 | 296=>85 | 297=>86 | 298=>87 | 299=>88 | 216=>89 | 300=>90 | 301=>91 | 328=>112 | 329=>113 | 330=>114 | 331=>115 | 332=>116 | 215=>98 | 343=>143 | n=>n,fun | 28=>23 | 3=>3 | 46=>22 | 0=>0 | 51=>116 | 53=>118 | 4=>4 | 183=>110 | 182=>109 | 131=>105 | 5=>5 | 9=>9 | 218=>132 | 222=>136 | 228=>158 | 229=>159 | n=>n,fun | n=>n⟩
theorem Tryz.lays189:Go.Proofs.Lays.n189 Tryz.prog Tryz.lays189_ren:={
 mixed:=by kernel_rfl
 f125:=Tryz.func55.trans (congrArg some (by kernel_rfl))
 f128:=Tryz.func92.trans (congrArg some (by kernel_rfl))
 f129:=Tryz.func93.trans (congrArg some (by kernel_rfl))
 f189:=Tryz.func29.trans (congrArg some (by kernel_rfl))
 f215:=Tryz.func98.trans (congrArg some (by kernel_rfl))
 f216:=Tryz.func89.trans (congrArg some (by kernel_rfl))
 f257:=Tryz.func54.trans (congrArg some (by kernel_rfl))
 f294:=Tryz.func83.trans (congrArg some (by kernel_rfl))
 f295:=Tryz.func84.trans (congrArg some (by kernel_rfl))
 f296:=Tryz.func85.trans (congrArg some (by kernel_rfl))
 f297:=Tryz.func86.trans (congrArg some (by kernel_rfl))
 f298:=Tryz.func87.trans (congrArg some (by kernel_rfl))
 f299:=Tryz.func88.trans (congrArg some (by kernel_rfl))
 f300:=Tryz.func90.trans (congrArg some (by kernel_rfl))
 f301:=Tryz.func91.trans (congrArg some (by kernel_rfl))
 f328:=Tryz.func112.trans (congrArg some (by kernel_rfl))
 f329:=Tryz.func113.trans (congrArg some (by kernel_rfl))
 f330:=Tryz.func114.trans (congrArg some (by kernel_rfl))
 f331:=Tryz.func115.trans (congrArg some (by kernel_rfl))
 f332:=Tryz.func116.trans (congrArg some (by kernel_rfl))
 f343:=Tryz.func143.trans (congrArg some (by kernel_rfl))
 t0:=Tryz.underlying0
 a0:=Tryz.isAgg0
 z0:=Tryz.sizeOf0
 v0:=Tryz.zeroValue0
 t3:=Tryz.underlying3
 a3:=Tryz.isAgg3
 z3:=Tryz.sizeOf3
 v3:=Tryz.zeroValue3
 t4:=Tryz.underlying4
 a4:=Tryz.isAgg4
 z4:=Tryz.sizeOf4
 v4:=Tryz.zeroValue4
 t5:=Tryz.underlying5
 a5:=Tryz.isAgg5
 z5:=Tryz.sizeOf5
 v5:=Tryz.zeroValue5
 t9:=Tryz.underlying9
 a9:=Tryz.isAgg9
 z9:=Tryz.sizeOf9
 v9:=Tryz.zeroValue9
 t28:=Tryz.underlying23
 a28:=Tryz.isAgg23
 z28:=Tryz.sizeOf23
 v28:=Tryz.zeroValue23
 t46:=Tryz.underlying22
 a46:=Tryz.isAgg22
 z46:=Tryz.sizeOf22
 v46:=Tryz.zeroValue22
 t51:=Tryz.underlying116
 a51:=Tryz.isAgg116
 z51:=Tryz.sizeOf116
 v51:=Tryz.zeroValue116
 t53:=Tryz.underlying118
 a53:=Tryz.isAgg118
 z53:=Tryz.sizeOf118
 v53:=Tryz.zeroValue118
 t131:=Tryz.underlying105
 a131:=Tryz.isAgg105
 z131:=Tryz.sizeOf105
 v131:=Tryz.zeroValue105
 t182:=Tryz.underlying109
 a182:=Tryz.isAgg109
 z182:=Tryz.sizeOf109
 v182:=Tryz.zeroValue109
 t183:=Tryz.underlying110
 a183:=Tryz.isAgg110
 z183:=Tryz.sizeOf110
 v183:=Tryz.zeroValue110
 t218:=Tryz.underlying132
 a218:=Tryz.isAgg132
 z218:=Tryz.sizeOf132
 v218:=Tryz.zeroValue132
 t222:=Tryz.underlying136
 a222:=Tryz.isAgg136
 z222:=Tryz.sizeOf136
 v222:=Tryz.zeroValue136
 t228:=Tryz.underlying158
 a228:=Tryz.isAgg158
 z228:=Tryz.sizeOf158
 v228:=Tryz.zeroValue158
 t229:=Tryz.underlying159
 a229:=Tryz.isAgg159
 z229:=Tryz.sizeOf159
 v229:=Tryz.zeroValue159 }
end Go.Proofs
set_option linter.unusedVariables false
set_option linter.unusedSimpArgs false
namespace Go.Top
open Go Go.Ab Go.Proofs Go.Shelf
def lenF (x:Int):Int:=Lib.bitLen x.toNat
noncomputable def qng:Con:=mkC 55 [.d (.int .u64)] [.int .i64] (fun (x:Int)=>[0≤x∧x≤1000]) (fun (x:Int)=>(lenF x,()))
theorem q7x:qng.Ok Tryz.prog:=by
 refine ⟨by kernel_rfl,fun Γ w env p r vs hA em henv hpre hF hp hargs=>?_⟩
 obtain ⟨x,rfl⟩:∃ x:Int,env=[.val (.int .u64) x]:=by
  have henv:qc5 [.int .u64] env:=henv
  match env,henv with
  | [x],⟨⟨y,hy⟩,_⟩=>exact ⟨y,by rw [hy]⟩
 have hpre:some [0≤x∧x≤1000]=some p:=hpre;have hF:some (lenF x,())=some r:=hF;cases hpre;cases hF;obtain ⟨h0,h1⟩:=allP_one.1 hp;have hargs:Fa w Γ [.val (.int .u64) x] vs:=hargs;obtain ⟨v,rfl,hr⟩:∃ v,vs=[v]∧Ra w Γ (.val (.int .u64) x) v:=by
  match vs,hargs with
  | [v],h=>exact ⟨v,rfl,h.1⟩
 have hv:v=.int .u64 x:=qcq.1 hr;subst hv;refine (Any.bits_Len Tryz.lays125 x w h0 (by omega)).mono fun e w' ⟨he,hw⟩=>?_
 subst he;subst hw;refine ⟨_,Γ,rfl,Ext.refl _ _ _,em,?_⟩;show Ra w' Γ (.val (.int .i64) (lenF x)) _;exact qcq.2 rfl
def nope:Prop:=False
instance:Decidable nope:=isFalse id
end Go.Top
namespace Go.Schur
open Go Go.Ab Go.Proofs
theorem ok29 (opn:Bool):(qrw 29 opn).Ok Tryz.prog :=
 q75 (by kernel_rfl) (fun blk off cap zs w h1 h2 h3=>Any.slices_Sort_int Tryz.lays189 blk off cap zs w h1 h2 h3) (fun p cap w=>Any.slices_Sort_int_none Tryz.lays189 p cap w) opn
def insI (x:Int):List Int→List Int
 | []=>[x]
 | y::l=>if x≤y then x::y::l else y::insI x l
def insS:List Int→List Int
 | []=>[]
 | x::l=>insI x (insS l)
theorem qno {x:Int}:∀ {l:List Int},(insI x l).Perm (x::l)
 | []=>List.Perm.refl _
 | y::l=>by
  rw [insI];split
  ·exact List.Perm.refl _
  ·exact (List.Perm.cons y qno).trans (List.Perm.swap x y l)
theorem q2e {x:Int}:∀ {l:List Int},l.Pairwise (·≤·)→(insI x l).Pairwise (·≤·)
 | [],_=>by simp [insI]
 | y::l,h=>by
  obtain ⟨h1,h2⟩:=List.pairwise_cons.1 h;rw [insI];split
  ·rename_i hxy;refine List.pairwise_cons.2 ⟨fun z hz=>?_,h⟩
   rcases List.mem_cons.1 hz with rfl | hz
   ·exact hxy
   ·have:=h1 z hz;omega
  ·rename_i hxy;refine List.pairwise_cons.2 ⟨fun z hz=>?_,q2e h2⟩
   have:=qno.mem_iff.1 hz
   rcases List.mem_cons.1 this with rfl | hz
   ·omega
   ·exact h1 z hz
theorem qtn:∀ {l:List Int},(insS l).Perm l
 | []=>List.Perm.refl _
 | x::l=>qno.trans (List.Perm.cons x qtn)
theorem q1o:∀ {l:List Int},(insS l).Pairwise (·≤·)
 | []=>by simp [insS]
 | x::l=>q2e q1o
theorem q51 {l:List Int}:qic l=insS l :=
 List.Perm.eq_of_pairwise (le:=(·≤·)) (fun a b _ _ h1 h2=>by omega) q4i q1o (qxw.trans qtn.symm)
noncomputable def qvk (f:FuncId) (opn:Bool):SCon:=mkS f [.slf 0 1] [.arr (.int .i64) opn] [] [.arr (.int .i64) opn] (fun (l:List Int)=>[l.length<4611686018427387904]) (fun (l:List Int)=>(insS l,()))
theorem q4b (f:FuncId) (opn:Bool):qvk f opn=qrw f opn:=by
 have h:(fun (l:List Int)=>((insS l,()):List Int×Unit))=fun (l:List Int)=>(qic l,()):=funext fun l=>by rw [q51]
 unfold qvk qrw;exact congrArg (mkS f [.slf 0 1] [.arr (.int .i64) opn] [] [.arr (.int .i64) opn] (fun (l:List Int)=>[l.length<4611686018427387904])) h
theorem zdv (opn:Bool):(qvk 29 opn).Ok Tryz.prog:=q4b 29 opn▸ok29 opn
end Go.Schur
namespace Go.Top
open Go Go.Ab
theorem ze9 {n:Int}:0≤wr .u64 n∧wr .u64 n<18446744073709551616:=by
 show 0≤IntKind.u64.wrap n∧IntKind.u64.wrap n<_;rw [IntKind.wrap_u64];omega
theorem q1h {n:Int} (h:0≤n∧n<18446744073709551616):wr .u64 n=n:=by
 show IntKind.u64.wrap n=n;rw [IntKind.wrap_u64];omega
theorem tmN (m:Int) (hm:0<m) (hb:m≤1000) (x:Int):∃ k:Nat,(k:Int)<m∧Int.tmod (wr .u64 x) m=Int.tmod (wr .u64 (k:Int)) m:=by
 have h0:0≤wr .u64 x:=ze9.1;have h1:=Int.tmod_nonneg m h0;have h2:Int.tmod (wr .u64 x) m<m:=Int.tmod_lt_of_pos _ hm;refine ⟨(Int.tmod (wr .u64 x) m).toNat,by omega,?_⟩
 rw [Int.toNat_of_nonneg h1];generalize Int.tmod (wr .u64 x) m=r at *;rw [q1h ⟨h1,by omega⟩,Int.tmod_eq_of_lt h1 h2]
end Go.Top
