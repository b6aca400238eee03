/- Skews of standard fillings,reckoned. -/
import Derived.Test.YtobghbapmlnmoaaY14
set_option maxRecDepth 100000
namespace Go.Schur
theorem zdl:P 2=[[1,1],[2]]:=by decide +kernel
theorem q9j:((P 8).take 8).all (fun c=>tb2 6 [1,1] c)=true:=by decide +kernel
theorem q9g:(((P 8).drop 8).take 5).all (fun c=>tb2 6 [1,1] c)=true:=by decide +kernel
theorem zae:(((P 8).drop 8).drop 5).all (fun c=>tb2 6 [1,1] c)=true:=by decide +kernel
theorem zaa:((P 8).take 8).all (fun c=>tb2 6 [2] c)=true:=by decide +kernel
theorem q8t:(((P 8).drop 8).take 5).all (fun c=>tb2 6 [2] c)=true:=by decide +kernel
theorem zaf:(((P 8).drop 8).drop 5).all (fun c=>tb2 6 [2] c)=true:=by decide +kernel
theorem qr9 {α:Type} {l:List α} {p:α→Bool} (k:Nat) (h1:(l.take k).all p=true) (h2:(l.drop k).all p=true):l.all p=true:=by
 rw [← List.take_append_drop k l,List.all_append,h1,h2];rfl
theorem zac:tabS 2 6=true:=by
 unfold tabS;rw [zdl,List.all_cons,List.all_cons,List.all_nil,qr9 8 q9j (qr9 5 q9g zae),qr9 8 zaa (qr9 5 q8t zaf)];rfl
end Go.Schur
