/- DERIVED: THE SHELF's CONTRACTS AT THIS DUMP,IN PLAIN WORDS. -/
import Derived.Shelf.Small.Bits
import Derived.Test.YtieimmiiaabpgaaProg
import Derived.Test.YtieimmiiaabpgaaAV
namespace Go.Proofs
open Go.Shelf
def Try.lays125_ren:Go.Shelf.Ren:=⟨fun | 125=>48 | 128=>69 | 129=>70 | n=>n,fun | 46=>22 | 3=>3 | 51=>91 | 53=>94 | 4=>4 | 5=>5 | 9=>9 | n=>n,fun | n=>n⟩
theorem Try.lays125:Go.Proofs.Lays.n125 Try.prog Try.lays125_ren:={
 mixed:=by kernel_rfl
 f125:=Try.func48.trans (congrArg some (by kernel_rfl))
 f128:=Try.func69.trans (congrArg some (by kernel_rfl))
 f129:=Try.func70.trans (congrArg some (by kernel_rfl))
 t3:=Try.underlying3
 a3:=Try.isAgg3
 z3:=Try.sizeOf3
 v3:=Try.zeroValue3
 t4:=Try.underlying4
 a4:=Try.isAgg4
 z4:=Try.sizeOf4
 v4:=Try.zeroValue4
 t5:=Try.underlying5
 a5:=Try.isAgg5
 z5:=Try.sizeOf5
 v5:=Try.zeroValue5
 t9:=Try.underlying9
 a9:=Try.isAgg9
 z9:=Try.sizeOf9
 v9:=Try.zeroValue9
 t46:=Try.underlying22
 a46:=Try.isAgg22
 z46:=Try.sizeOf22
 v46:=Try.zeroValue22
 t51:=Try.underlying91
 a51:=Try.isAgg91
 z51:=Try.sizeOf91
 v51:=Try.zeroValue91
 t53:=Try.underlying94
 a53:=Try.isAgg94
 z53:=Try.sizeOf94
 v53:=Try.zeroValue94 }
end Go.Proofs
set_option linter.unusedVariables false
set_option linter.unusedSimpArgs false
namespace Go.Top
open Go Go.Ab Go.Proofs Go.Shelf
def lenF (x:Int):Int:=Lib.bitLen x.toNat
noncomputable def qzg:Con:=mkC 48 [.d (.int .u64)] [.int .i64] (fun (x:Int)=>[0≤x∧x≤1000]) (fun (x:Int)=>(lenF x,()))
theorem q7w:qzg.Ok Try.prog:=by
 refine ⟨by kernel_rfl,fun Γ w env p r vs hA em henv hpre hF hp hargs=>?_⟩
 obtain ⟨x,rfl⟩:∃ x:Int,env=[.val (.int .u64) x]:=by
  have henv:qcz [.int .u64] env:=henv
  match env,henv with
  | [x],⟨⟨y,hy⟩,_⟩=>exact ⟨y,by rw [hy]⟩
 have hpre:some [0≤x∧x≤1000]=some p:=hpre;have hF:some (lenF x,())=some r:=hF;cases hpre;cases hF;obtain ⟨h0,h1⟩:=allP_one.1 hp;have hargs:Fa w Γ [.val (.int .u64) x] vs:=hargs;obtain ⟨v,rfl,hr⟩:∃ v,vs=[v]∧Ra w Γ (.val (.int .u64) x) v:=by
  match vs,hargs with
  | [v],h=>exact ⟨v,rfl,h.1⟩
 have hv:v=.int .u64 x:=qce.1 hr;subst hv;refine (Any.bits_Len Try.lays125 x w h0 (by omega)).mono fun e w' ⟨he,hw⟩=>?_
 subst he;subst hw;refine ⟨_,Γ,rfl,Ext.refl _ _ _,em,?_⟩;show Ra w' Γ (.val (.int .i64) (lenF x)) _;exact qce.2 rfl
def nope:Prop:=False
instance:Decidable nope:=isFalse id
end Go.Top
