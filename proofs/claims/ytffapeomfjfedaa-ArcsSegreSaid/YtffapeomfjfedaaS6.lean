/- The law Segre: the tables. -/
import Derived.Test.YtffapeomfjfedaaS1
set_option maxRecDepth 100000
namespace Go.Arcs
theorem st_5 : stGo 5 3 [] = true:=by decide +kernel
theorem st_7a : (((stAll 7).drop 0).take 6).all (fun x=>stGo 7 4 [x]) = true:=by decide +kernel
theorem st_7b : (((stAll 7).drop 6).take 6).all (fun x=>stGo 7 4 [x]) = true:=by decide +kernel
theorem st_7c : (((stAll 7).drop 12).take 6).all (fun x=>stGo 7 4 [x]) = true:=by decide +kernel
theorem st_7d : (((stAll 7).drop 18).take 6).all (fun x=>stGo 7 4 [x]) = true:=by decide +kernel
theorem st_7e : (((stAll 7).drop 24).take 6).all (fun x=>stGo 7 4 [x]) = true:=by decide +kernel
theorem st_7f : (((stAll 7).drop 30).take 6).all (fun x=>stGo 7 4 [x]) = true:=by decide +kernel
theorem all_cut6 {α : Type} {l : List α} {p : α → Bool} (h : l.length = 36) (h0 : ((l.drop 0).take 6).all p = true) (h1 : ((l.drop 6).take 6).all p = true) (h2 : ((l.drop 12).take 6).all p = true) (h3 : ((l.drop 18).take 6).all p = true) (h4 : ((l.drop 24).take 6).all p = true) (h5 : ((l.drop 30).take 6).all p = true) : l.all p = true:=by
 refine List.all_eq_true.2 fun x hx=>?_
 obtain ⟨i,hi,rfl⟩:=List.getElem_of_mem hx
 have key : ∀ k,((l.drop k).take 6).all p = true → k ≤ i → i < k + 6 → p l[i] = true:=fun k hk h1 h2=>by
  refine List.all_eq_true.1 hk _ ?_
  refine List.mem_of_getElem? (i:=i - k) ?_
  rw [List.getElem?_take,if_pos (by omega),List.getElem?_drop,show k + (i - k) = i by omega,List.getElem?_eq_getElem hi]
 by_cases c1 : i < 6
 ·exact key 0 h0 (by omega) (by omega)
 by_cases c2 : i < 12
 ·exact key 6 h1 (by omega) (by omega)
 by_cases c3 : i < 18
 ·exact key 12 h2 (by omega) (by omega)
 by_cases c4 : i < 24
 ·exact key 18 h3 (by omega) (by omega)
 by_cases c5 : i < 30
 ·exact key 24 h4 (by omega) (by omega)
 ·exact key 30 h5 (by omega) (by omega)
theorem st_7 : stGo 7 5 [] = true:=by
 have h:=all_cut6 (l:=stAll 7) (by decide +kernel) st_7a st_7b st_7c st_7d st_7e st_7f
 rw [stGo]
 refine List.all_eq_true.2 fun x hx=>?_
 have e : stAdd 7 [] x = true:=rfl
 rw [e,cond_true]
 exact List.all_eq_true.1 h x hx
end Go.Arcs
