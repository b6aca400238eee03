/- Ring: contracts. -/
import Derived.Test.YtobghbapmlnmoaaXK
import Derived.Test.YtobghbapmlnmoaaXJ
import Derived.Test.YtobghbapmlnmoaaXO
import Derived.Test.YtobghbapmlnmoaaXI
set_option linter.unusedVariables false
set_option linter.unusedSimpArgs false
namespace Go.Schur
open Go Go.Ab Go.Proofs
noncomputable def con14 : Con:=mkC 14 [.d LI,.d LI,.d LI] [.bool] (fun (a b x:List Int)=>[small a ∧ small b ∧ small x]) (fun (a b x:List Int)=>(true,()))
noncomputable def g14 (x0 x1 x2:List Int) : Option (Bool × Unit):=gd ((0:Nat) + List.length (List.take (12:Nat) x0) ≤ List.length (List.take (12:Nat) x0)) (gd ((0:Nat) + List.length (List.take (12:Nat) x2) ≤ List.length (List.take (12:Nat) x2)) (gd (List.length (List.take (List.length (List.take (12:Nat) x0)) (List.drop (0:Nat) (List.take (12:Nat) x0))) ≤ (1000:Nat) ∧ List.length (List.take (List.length (List.take (12:Nat) x2)) (List.drop (0:Nat) (List.take (12:Nat) x2))) ≤ (1000:Nat)) (gd ((0:Nat) + List.length (List.take (12:Nat) x1) ≤ List.length (List.take (12:Nat) x1)) (gd ((0:Nat) + List.length (List.take (12:Nat) x2) ≤ List.length (List.take (12:Nat) x2)) (gd (List.length (List.take (List.length (List.take (12:Nat) x1)) (List.drop (0:Nat) (List.take (12:Nat) x1))) ≤ (1000:Nat) ∧ List.length (List.take (List.length (List.take (12:Nat) x2)) (List.drop (0:Nat) (List.take (12:Nat) x2))) ≤ (1000:Nat)) (gd ((!!ieq (schF2 (List.take (List.length (List.take (12:Nat) x0)) (List.drop (0:Nat) (List.take (12:Nat) x0))) (List.take (List.length (List.take (12:Nat) x2)) (List.drop (0:Nat) (List.take (12:Nat) x2)))).2.1 (0:Int)) = true → (!!ieq (schF2 (List.take (List.length (List.take (12:Nat) x0)) (List.drop (0:Nat) (List.take (12:Nat) x0))) (List.take (List.length (List.take (12:Nat) x2)) (List.drop (0:Nat) (List.take (12:Nat) x2)))).2.1 (0:Int)) = true) (gd ((!ieq (schF2 (List.take (List.length (List.take (12:Nat) x0)) (List.drop (0:Nat) (List.take (12:Nat) x0))) (List.take (List.length (List.take (12:Nat) x2)) (List.drop (0:Nat) (List.take (12:Nat) x2)))).2.1 (0:Int)) = false → (!!ieq (schF2 (List.take (List.length (List.take (12:Nat) x0)) (List.drop (0:Nat) (List.take (12:Nat) x0))) (List.take (List.length (List.take (12:Nat) x2)) (List.drop (0:Nat) (List.take (12:Nat) x2)))).2.1 (0:Int)) = true) (bif bif !ieq (schF2 (List.take (List.length (List.take (12:Nat) x0)) (List.drop (0:Nat) (List.take (12:Nat) x0))) (List.take (List.length (List.take (12:Nat) x2)) (List.drop (0:Nat) (List.take (12:Nat) x2)))).2.1 (0:Int) then true else !ieq (schF2 (List.take (List.length (List.take (12:Nat) x1)) (List.drop (0:Nat) (List.take (12:Nat) x1))) (List.take (List.length (List.take (12:Nat) x2)) (List.drop (0:Nat) (List.take (12:Nat) x2)))).2.1 (0:Int) then gd ((!ieq (schF2 (List.take (List.length (List.take (12:Nat) x0)) (List.drop (0:Nat) (List.take (12:Nat) x0))) (List.take (List.length (List.take (12:Nat) x2)) (List.drop (0:Nat) (List.take (12:Nat) x2)))).2.1 (2:Int)) = true → (!ieq (schF2 (List.take (List.length (List.take (12:Nat) x0)) (List.drop (0:Nat) (List.take (12:Nat) x0))) (List.take (List.length (List.take (12:Nat) x2)) (List.drop (0:Nat) (List.take (12:Nat) x2)))).2.1 (2:Int)) = true) (gd (ieq (schF2 (List.take (List.length (List.take (12:Nat) x0)) (List.drop (0:Nat) (List.take (12:Nat) x0))) (List.take (List.length (List.take (12:Nat) x2)) (List.drop (0:Nat) (List.take (12:Nat) x2)))).2.1 (2:Int) = false → (!ieq (schF2 (List.take (List.length (List.take (12:Nat) x0)) (List.drop (0:Nat) (List.take (12:Nat) x0))) (List.take (List.length (List.take (12:Nat) x2)) (List.drop (0:Nat) (List.take (12:Nat) x2)))).2.1 (2:Int)) = true) (gd ((bif ieq (schF2 (List.take (List.length (List.take (12:Nat) x0)) (List.drop (0:Nat) (List.take (12:Nat) x0))) (List.take (List.length (List.take (12:Nat) x2)) (List.drop (0:Nat) (List.take (12:Nat) x2)))).2.1 (2:Int) then true else ieq (schF2 (List.take (List.length (List.take (12:Nat) x1)) (List.drop (0:Nat) (List.take (12:Nat) x1))) (List.take (List.length (List.take (12:Nat) x2)) (List.drop (0:Nat) (List.take (12:Nat) x2)))).2.1 (2:Int)) = true → (bif ieq (schF2 (List.take (List.length (List.take (12:Nat) x0)) (List.drop (0:Nat) (List.take (12:Nat) x0))) (List.take (List.length (List.take (12:Nat) x2)) (List.drop (0:Nat) (List.take (12:Nat) x2)))).2.1 (2:Int) then true else ieq (schF2 (List.take (List.length (List.take (12:Nat) x1)) (List.drop (0:Nat) (List.take (12:Nat) x1))) (List.take (List.length (List.take (12:Nat) x2)) (List.drop (0:Nat) (List.take (12:Nat) x2)))).2.1 (2:Int)) = true) (some ((bif bif ieq (schF2 (List.take (List.length (List.take (12:Nat) x0)) (List.drop (0:Nat) (List.take (12:Nat) x0))) (List.take (List.length (List.take (12:Nat) x2)) (List.drop (0:Nat) (List.take (12:Nat) x2)))).2.1 (2:Int) then true else ieq (schF2 (List.take (List.length (List.take (12:Nat) x1)) (List.drop (0:Nat) (List.take (12:Nat) x1))) (List.take (List.length (List.take (12:Nat) x2)) (List.drop (0:Nat) (List.take (12:Nat) x2)))).2.1 (2:Int) then true else false,()) : Bool × Unit)))) else gd (List.length (List.take (12:Nat) x2) = List.length (List.take (12:Nat) x2)) (gd (List.length (List.take (12:Nat) x2) ≤ (1000:Nat)) (gd ((0:Nat) + List.length (List.take (12:Nat) x0) ≤ List.length (List.take (12:Nat) x0)) (gd ((0:Nat) + List.length (List.take (12:Nat) x2) ≤ List.length (revI (List.take (12:Nat) x2))) (gd (List.length (List.take (List.length (List.take (12:Nat) x0)) (List.drop (0:Nat) (List.take (12:Nat) x0))) ≤ (1000:Nat) ∧ List.length (List.take (List.length (List.take (12:Nat) x2)) (List.drop (0:Nat) (revI (List.take (12:Nat) x2)))) ≤ (1000:Nat)) (gd ((!!ieq (schF2 (List.take (List.length (List.take (12:Nat) x0)) (List.drop (0:Nat) (List.take (12:Nat) x0))) (List.take (List.length (List.take (12:Nat) x2)) (List.drop (0:Nat) (revI (List.take (12:Nat) x2))))).1 (schF2 (List.take (List.length (List.take (12:Nat) x0)) (List.drop (0:Nat) (List.take (12:Nat) x0))) (List.take (List.length (List.take (12:Nat) x2)) (List.drop (0:Nat) (List.take (12:Nat) x2)))).1) = true → (!!ieq (schF2 (List.take (List.length (List.take (12:Nat) x0)) (List.drop (0:Nat) (List.take (12:Nat) x0))) (List.take (List.length (List.take (12:Nat) x2)) (List.drop (0:Nat) (revI (List.take (12:Nat) x2))))).1 (schF2 (List.take (List.length (List.take (12:Nat) x0)) (List.drop (0:Nat) (List.take (12:Nat) x0))) (List.take (List.length (List.take (12:Nat) x2)) (List.drop (0:Nat) (List.take (12:Nat) x2)))).1) = true) (gd ((!ieq (schF2 (List.take (List.length (List.take (12:Nat) x0)) (List.drop (0:Nat) (List.take (12:Nat) x0))) (List.take (List.length (List.take (12:Nat) x2)) (List.drop (0:Nat) (revI (List.take (12:Nat) x2))))).1 (schF2 (List.take (List.length (List.take (12:Nat) x0)) (List.drop (0:Nat) (List.take (12:Nat) x0))) (List.take (List.length (List.take (12:Nat) x2)) (List.drop (0:Nat) (List.take (12:Nat) x2)))).1) = false → (!!ieq (schF2 (List.take (List.length (List.take (12:Nat) x0)) (List.drop (0:Nat) (List.take (12:Nat) x0))) (List.take (List.length (List.take (12:Nat) x2)) (List.drop (0:Nat) (revI (List.take (12:Nat) x2))))).1 (schF2 (List.take (List.length (List.take (12:Nat) x0)) (List.drop (0:Nat) (List.take (12:Nat) x0))) (List.take (List.length (List.take (12:Nat) x2)) (List.drop (0:Nat) (List.take (12:Nat) x2)))).1) = true) (bif bif !ieq (schF2 (List.take (List.length (List.take (12:Nat) x0)) (List.drop (0:Nat) (List.take (12:Nat) x0))) (List.take (List.length (List.take (12:Nat) x2)) (List.drop (0:Nat) (revI (List.take (12:Nat) x2))))).1 (schF2 (List.take (List.length (List.take (12:Nat) x0)) (List.drop (0:Nat) (List.take (12:Nat) x0))) (List.take (List.length (List.take (12:Nat) x2)) (List.drop (0:Nat) (List.take (12:Nat) x2)))).1 then true else !ieq (schF2 (List.take (List.length (List.take (12:Nat) x0)) (List.drop (0:Nat) (List.take (12:Nat) x0))) (List.take (List.length (List.take (12:Nat) x2)) (List.drop (0:Nat) (revI (List.take (12:Nat) x2))))).2.1 (0:Int) then some ((false,()) : Bool × Unit) else gd ((0:Nat) + List.length (List.take (12:Nat) x0) ≤ List.length (List.take (12:Nat) x0)) (gd ((0:Nat) + List.length (List.take (12:Nat) x1) ≤ List.length (List.take (12:Nat) x1)) (gd (List.length (List.take (List.length (List.take (12:Nat) x0)) (List.drop (0:Nat) (List.take (12:Nat) x0))) ≤ (1000:Nat) ∧ List.length (List.take (List.length (List.take (12:Nat) x1)) (List.drop (0:Nat) (List.take (12:Nat) x1))) ≤ (1000:Nat)) (bif !ieq (prodF (List.take (List.length (List.take (12:Nat) x0)) (List.drop (0:Nat) (List.take (12:Nat) x0))) (List.take (List.length (List.take (12:Nat) x1)) (List.drop (0:Nat) (List.take (12:Nat) x1)))).2.1 (0:Int) then gd (ieq (prodF (List.take (List.length (List.take (12:Nat) x0)) (List.drop (0:Nat) (List.take (12:Nat) x0))) (List.take (List.length (List.take (12:Nat) x1)) (List.drop (0:Nat) (List.take (12:Nat) x1)))).2.1 (6:Int) = true → ieq (prodF (List.take (List.length (List.take (12:Nat) x0)) (List.drop (0:Nat) (List.take (12:Nat) x0))) (List.take (List.length (List.take (12:Nat) x1)) (List.drop (0:Nat) (List.take (12:Nat) x1)))).2.1 (6:Int) = true) (some ((bif ieq (prodF (List.take (List.length (List.take (12:Nat) x0)) (List.drop (0:Nat) (List.take (12:Nat) x0))) (List.take (List.length (List.take (12:Nat) x1)) (List.drop (0:Nat) (List.take (12:Nat) x1)))).2.1 (6:Int) then true else false,()) : Bool × Unit)) else whileO (fun (d3 : Int × Int × Unit)=>bif ilt d3.2.1 (↑(List.length (prodF (List.take (List.length (List.take (12:Nat) x0)) (List.drop (0:Nat) (List.take (12:Nat) x0))) (List.take (List.length (List.take (12:Nat) x1)) (List.drop (0:Nat) (List.take (12:Nat) x1)))).1):Int) then gd ((0:Int) ≤ d3.2.1 ∧ d3.2.1 < (↑(List.length (prodF (List.take (List.length (List.take (12:Nat) x0)) (List.drop (0:Nat) (List.take (12:Nat) x0))) (List.take (List.length (List.take (12:Nat) x1)) (List.drop (0:Nat) (List.take (12:Nat) x1)))).1):Int)) (gd (List.length (List.getD (prodF (List.take (List.length (List.take (12:Nat) x0)) (List.drop (0:Nat) (List.take (12:Nat) x0))) (List.take (List.length (List.take (12:Nat) x1)) (List.drop (0:Nat) (List.take (12:Nat) x1)))).1 (Int.toNat d3.2.1) ((([]:List Int),(0:Int),()) : List Int × Int × Unit)).1 ≤ (100000:Nat)) (gd ((0:Nat) + List.length (List.take (12:Nat) x2) ≤ List.length (List.take (12:Nat) x2)) (gd (List.length (List.getD (prodF (List.take (List.length (List.take (12:Nat) x0)) (List.drop (0:Nat) (List.take (12:Nat) x0))) (List.take (List.length (List.take (12:Nat) x1)) (List.drop (0:Nat) (List.take (12:Nat) x1)))).1 (Int.toNat d3.2.1) ((([]:List Int),(0:Int),()) : List Int × Int × Unit)).1 ≤ (1000:Nat) ∧ List.length (List.take (List.length (List.take (12:Nat) x2)) (List.drop (0:Nat) (List.take (12:Nat) x2))) ≤ (1000:Nat)) (bif !ieq (schF2 (List.getD (prodF (List.take (List.length (List.take (12:Nat) x0)) (List.drop (0:Nat) (List.take (12:Nat) x0))) (List.take (List.length (List.take (12:Nat) x1)) (List.drop (0:Nat) (List.take (12:Nat) x1)))).1 (Int.toNat d3.2.1) ((([]:List Int),(0:Int),()) : List Int × Int × Unit)).1 (List.take (List.length (List.take (12:Nat) x2)) (List.drop (0:Nat) (List.take (12:Nat) x2)))).2.1 (0:Int) then some (Lp.out ((false,()) : Bool × Unit)) else some (Lp.go ((wr .i64 (d3.1 + wr .i64 ((schF2 (List.getD (prodF (List.take (List.length (List.take (12:Nat) x0)) (List.drop (0:Nat) (List.take (12:Nat) x0))) (List.take (List.length (List.take (12:Nat) x1)) (List.drop (0:Nat) (List.take (12:Nat) x1)))).1 (Int.toNat d3.2.1) ((([]:List Int),(0:Int),()) : List Int × Int × Unit)).1 (List.take (List.length (List.take (12:Nat) x2)) (List.drop (0:Nat) (List.take (12:Nat) x2)))).1 * (List.getD (prodF (List.take (List.length (List.take (12:Nat) x0)) (List.drop (0:Nat) (List.take (12:Nat) x0))) (List.take (List.length (List.take (12:Nat) x1)) (List.drop (0:Nat) (List.take (12:Nat) x1)))).1 (Int.toNat d3.2.1) ((([]:List Int),(0:Int),()) : List Int × Int × Unit)).2.1)),wr .i64 (d3.2.1 + (1:Int)),()) : Int × Int × Unit)))))) else gd (ieq d3.1 (wr .i64 ((schF2 (List.take (List.length (List.take (12:Nat) x0)) (List.drop (0:Nat) (List.take (12:Nat) x0))) (List.take (List.length (List.take (12:Nat) x2)) (List.drop (0:Nat) (List.take (12:Nat) x2)))).1 * (schF2 (List.take (List.length (List.take (12:Nat) x1)) (List.drop (0:Nat) (List.take (12:Nat) x1))) (List.take (List.length (List.take (12:Nat) x2)) (List.drop (0:Nat) (List.take (12:Nat) x2)))).1)) = true → ieq d3.1 (wr .i64 ((schF2 (List.take (List.length (List.take (12:Nat) x0)) (List.drop (0:Nat) (List.take (12:Nat) x0))) (List.take (List.length (List.take (12:Nat) x2)) (List.drop (0:Nat) (List.take (12:Nat) x2)))).1 * (schF2 (List.take (List.length (List.take (12:Nat) x1)) (List.drop (0:Nat) (List.take (12:Nat) x1))) (List.take (List.length (List.take (12:Nat) x2)) (List.drop (0:Nat) (List.take (12:Nat) x2)))).1)) = true) (some (Lp.out ((bif ieq d3.1 (wr .i64 ((schF2 (List.take (List.length (List.take (12:Nat) x0)) (List.drop (0:Nat) (List.take (12:Nat) x0))) (List.take (List.length (List.take (12:Nat) x2)) (List.drop (0:Nat) (List.take (12:Nat) x2)))).1 * (schF2 (List.take (List.length (List.take (12:Nat) x1)) (List.drop (0:Nat) (List.take (12:Nat) x1))) (List.take (List.length (List.take (12:Nat) x2)) (List.drop (0:Nat) (List.take (12:Nat) x2)))).1)) then true else false,()) : Bool × Unit)))) (((0:Int),(0:Int),()) : Int × Int × Unit)))))))))))))))))))
noncomputable def g14_sh : List LSh:=LSh.mk (((15,TV.v (Ty.int IntKind.i64)) : Nat × TV) :: ((86,TV.v (Ty.int IntKind.i64)) : Nat × TV) :: ([] : List (Nat × TV))) ([] : List TB) :: ([] : List LSh)
end Go.Schur
namespace Go.Schur
open Go Go.Ab Go.Proofs
theorem sL_upto {n k : Nat} {G : Nat → Int} (hk : k ≤ n) : sL (List.range (n - k + 1)) G = sL (List.range (n + 1)) fun j=>cond (Nat.ble (k + j) n) (G j) 0:=by
  rw [sL_range_shift (n:=n + 1) (m:=n - k + 1) (d:=0) (by omega) (fun i hi=>absurd hi (by omega)) (fun i h1 h2=>by
    have : Nat.ble (k + i) n = false:=by rw [← Bool.not_eq_true];intro h;have:=Nat.le_of_ble_eq_true h;omega
    rw [this];rfl)]
  refine sL_congr fun i hi=>?_
  have:=List.mem_range.1 hi
  rw [Nat.zero_add,show Nat.ble (k + i) n = true from Nat.ble_eq_true_of_le (by omega)];rfl
theorem sR_swap {y z : Int} {ys : List Int} {p : List Nat} (hp : p ∈ allP) : sR (y :: z :: ys) p = sR (z :: y :: ys) p:=by
  obtain ⟨n,hn,hpn⟩:=allP_iff.1 hp
  have hs:=sum_P hn hpn
  have key : ∀ y z : Int,sR (y :: z :: ys) p = sL (List.range (n + 1)) fun k=>sL (List.range (n + 1)) fun j=>cond (Nat.ble (k + j) n) (pw y k * (pw z j * sL (less k p) fun μ=>sL (less j μ) (sR ys))) 0:=by
    intro y z
    rw [sR_less hp,hs]
    refine sL_congr fun k hk=>?_
    have hk:=List.mem_range.1 hk
    have e : sL (less k p) (sR (z :: ys)) = sL (less k p) fun μ=>sL (List.range (n - k + 1)) fun j=>pw z j * sL (less j μ) (sR ys):=sL_congr fun μ hμ=>by
      have hm:=less_P hn hpn hμ
      rw [sR_less (allP_iff.2 ⟨n - k,by omega,hm⟩),sum_P (by omega) hm]
    rw [e,sL_comm,sL_upto (by omega),← sL_mul]
    refine sL_congr fun j _=>?_
    rw [sL_mul]
    cases Nat.ble (k + j) n
    · simp
    · rfl
  rw [key,key,sL_comm]
  refine sL_congr fun k _=>sL_congr fun j _=>?_
  rw [Nat.add_comm j k]
  cases h : Nat.ble (k + j) n with
  | false=>rfl
  | true =>
    have h:=Nat.le_of_ble_eq_true h
    show pw y j * (pw z k * _) = pw z k * (pw y j * _)
    rw [less_comm hn hpn (show j + k ≤ n by omega)]
    simp only [Int.mul_comm,Int.mul_left_comm]
theorem sR_perm {x y : List Int} (h : x.Perm y) : ∀ {p : List Nat},p ∈ allP → sR x p = sR y p:=by
  induction h with
  | nil=>intro p _;rfl
  | @cons a l m _ ih =>
    intro p hp
    rw [sR_less hp,sR_less hp]
    obtain ⟨n,hn,hpn⟩:=allP_iff.1 hp
    exact sL_congr fun k hk=>by rw [sL_congr fun μ hμ=>ih (allP_iff.2 ⟨n - k,by omega,less_P hn hpn hμ⟩)]
  | swap a b l=>intro p hp;exact sR_swap hp
  | trans _ _ ih1 ih2=>intro p hp;rw [ih1 hp,ih2 hp]
theorem schN_rev {p : List Nat} {x : List Int} (hp : p ∈ allP) : schN p x.reverse = schN p x:=by
  unfold schN
  rw [List.reverse_reverse]
  exact sR_perm (List.reverse_perm x).symm hp
def detA (a : List Nat) : Nat → List (List Int) → Option Vec
  | 0,_=>none
  | k + 1,t=>match t with
    | []=>some [(a,1)]
    | r0 :: rest=>dvLoop (detA a k) rest r0 0 1
theorem detA_eq {ys : List Int} {a : List Nat} (ha : a ∈ allP) : ∀ {k : Nat} {t : List (List Int)} {v : Vec},detA a k t = some v → okV v ∧ sR ys a * detE ys k t = evV ys v
  | 0,t,v,h=>by cases h
  | k + 1,t,v,h=>by
    cases t with
    | nil =>
      cases h
      refine ⟨fun b hb=>by rw [List.mem_singleton.1 hb];exact allP_iff.1 ha,?_⟩
      simp [detE,evV,sL]
    | cons r0 rest =>
      have key : ∀ (es:List Int) (j:Nat) (sg:Int) (w : Vec),dvLoop (detA a k) rest es j sg = some w → okV w ∧ sR ys a * deLoop ys (detE ys k) rest es j sg = evV ys w:=by
        intro es
        induction es with
        | nil =>
          intro j sg w h
          cases h
          exact ⟨fun a ha=>(nomatch ha),by simp [deLoop,evV,sL]⟩
        | cons e es ih =>
          intro j sg w h
          rw [dvLoop] at h
          rw [deLoop]
          by_cases he : e < 0
          · rw [decide_eq_true he] at h
            obtain ⟨h1,h2⟩:=ih _ _ _ h
            refine ⟨h1,?_⟩
            rw [← h2];simp [hZ,he]
          · rw [decide_eq_false he] at h
            simp only at h
            cases hD : detA a k (rest.map (cutC j)) with
            | none=>rw [hD] at h;cases h
            | some v =>
              rw [hD] at h
              simp only at h
              obtain ⟨v1,v2⟩:=detA_eq ha hD
              cases hf : fitsH e.toNat v with
              | false=>rw [hf] at h;cases h
              | true =>
                rw [hf] at h
                cases hw : dvLoop (detA a k) rest es (j + 1) (-sg) with
                | none=>rw [hw] at h;cases h
                | some u =>
                  rw [hw] at h
                  cases h
                  obtain ⟨u1,u2⟩:=ih _ _ _ hw
                  obtain ⟨a1,a2⟩:=addH_ok (ys:=ys) (sg:=sg) v1 hf
                  refine ⟨fun a ha=>?_,?_⟩
                  · rcases List.mem_append.1 ha with h | h
                    · exact a1 a h
                    · exact u1 a h
                  · rw [evV_app,a2,← u2,← v2,Int.mul_add]
                    simp only [hZ,if_neg he,Int.mul_assoc,Int.mul_comm,Int.mul_left_comm]
      exact key r0 0 1 v h
end Go.Schur
namespace Go.Schur
open Go Go.Ab Go.Proofs
def ringOk (a b : List Nat) : Bool:=match detA a 9 (matI b) with
  | some v=>v.all (fun t=>Nat.beq t.1.sum (a.sum + b.sum)) && (P (a.sum + b.sum)).all fun q=>decide (coefV v q = refR (toI a) (toI b) (toI q))
  | none=>false
def ringT (n k:Nat) : Bool:=(P k).all fun a=>(P (n - k)).all fun b=>ringOk a b
set_option maxRecDepth 100000 in
theorem ringT_lo : ∀ n ∈ List.range 7,∀ k ∈ List.range (n + 1),n ≤ 2 * k → ringT n k = true:=by decide +kernel
set_option maxRecDepth 100000 in
theorem ringT_7 : ∀ k ∈ [4,5,6,7],ringT 7 k = true:=by decide +kernel
set_option maxRecDepth 100000 in
theorem ringT_8a : ∀ k ∈ [4],ringT 8 k = true:=by decide +kernel
set_option maxRecDepth 100000 in
theorem ringT_8b : ∀ k ∈ [5,6],ringT 8 k = true:=by decide +kernel
set_option maxRecDepth 100000 in
theorem ringT_8c : ∀ k ∈ [7,8],ringT 8 k = true:=by decide +kernel
theorem ringT_ok {n k : Nat} (hn : n ≤ 8) (hk : k ≤ n) (h2 : n ≤ 2 * k) : ringT n k = true:=by
  by_cases h7 : n < 7
  · exact ringT_lo n (List.mem_range.2 h7) k (List.mem_range.2 (by omega)) h2
  by_cases h8 : n = 7
  · subst h8;exact ringT_7 k (by simp;omega)
  obtain rfl : n = 8:=by omega
  by_cases h4 : k = 4
  · exact ringT_8a k (by simp;omega)
  by_cases h6 : k < 7
  · exact ringT_8b k (by simp;omega)
  · exact ringT_8c k (by simp;omega)
theorem P_small : ∀ n ∈ List.range 5,∀ b ∈ P n,jtC b = true:=by decide +kernel
theorem ring_le {ys : List Int} {a b : List Nat} {m n : Nat} (h : m + n ≤ 8) (hle : n ≤ m) (ha : a ∈ P m) (hb : b ∈ P n) : sR ys a * sR ys b = sL (P (m + n)) fun q=>refR (toI a) (toI b) (toI q) * sR ys q:=by
  have ha' : a ∈ allP:=allP_iff.2 ⟨m,by omega,ha⟩
  have hb' : b ∈ allP:=allP_iff.2 ⟨n,by omega,hb⟩
  have sa:=sum_P (by omega) ha
  have sb:=sum_P (by omega) hb
  have hT:=ringT_ok (n:=m + n) (k:=m) h (by omega) (by omega)
  have hr:=List.all_eq_true.1 (List.all_eq_true.1 hT a ha) b (by rw [show m + n - m = n by omega];exact hb)
  unfold ringOk at hr
  cases hv : detA a 9 (matI b) with
  | none=>rw [hv] at hr;cases hr
  | some v =>
    rw [hv] at hr
    simp only [Bool.and_eq_true] at hr
    obtain ⟨h1,h2⟩:=hr
    rw [sa,sb] at h1 h2
    obtain ⟨v1,v2⟩:=detA_eq (ys:=ys) ha' hv
    rw [← jt (ys:=ys) hb' (P_small n (List.mem_range.2 (by omega)) b hb),v2]
    have hnd:=P_nodup (m + n) (List.mem_range.2 (by omega))
    have hin : ∀ t ∈ v,t.1 ∈ P (m + n):=fun t ht=>by
      obtain ⟨r,hr,htr⟩:=v1 t ht
      have e1:=Nat.eq_of_beq_eq_true (List.all_eq_true.1 h1 t ht)
      have e2:=sum_P hr htr
      have : r = m + n:=by omega
      rw [← this];exact htr
    have e1 : evV ys v = sL (P (m + n)) fun q=>coefV v q * sR ys q:=by
      unfold evV
      have : (sL v fun a=>a.2 * sR ys a.1) = sL v fun a=>sL (P (m + n)) fun q=>cond (decide (q = a.1)) (a.2 * sR ys q) 0:=sL_congr fun a ha=>by
        rw [sL_single (g:=fun q=>a.2 * sR ys q) (p:=fun q=>decide (q = a.1)) hnd (hin a ha) (fun b _=>by simp)]
      rw [this,sL_comm]
      refine sL_congr fun q _=>?_
      unfold coefV
      show _ = (sL v fun a=>cond (decide (a.1 = q)) a.2 0) * _
      rw [← sL_mulr]
      refine sL_congr fun a _=>?_
      by_cases hq : q = a.1
      · rw [decide_eq_true hq,decide_eq_true hq.symm];rfl
      · rw [decide_eq_false hq,decide_eq_false (fun h=>hq h.symm)];simp
    rw [e1]
    refine sL_congr fun q hq=>?_
    rw [of_decide_eq_true (List.all_eq_true.1 h2 q hq)]
theorem ring_eq {ys : List Int} {a b : List Nat} {m n : Nat} (h : m + n ≤ 8) (ha : a ∈ P m) (hb : b ∈ P n) : sR ys a * sR ys b = sL (P (m + n)) fun q=>refR (toI a) (toI b) (toI q) * sR ys q:=by
  by_cases hle : n ≤ m
  · exact ring_le h hle ha hb
  · rw [Int.mul_comm,ring_le (by omega) (by omega) hb ha,Nat.add_comm n m]
    refine sL_congr fun q hq=>?_
    have s3 : sh3 (toI b) (toI a) (toI q):=⟨P_shape n (List.mem_range.2 (by omega)) b hb,P_shape m (List.mem_range.2 (by omega)) a ha,P_shape (m + n) (List.mem_range.2 (by omega)) q hq⟩
    rw [(ref_tab s3).1]
end Go.Schur
namespace Go.Schur
open Go Go.Ab Go.Proofs
def valN (c x:List Int) : Int:=schN (c.map Int.toNat) x
theorem toN_toI {p : List Nat} : (toI p).map Int.toNat = p:=by
  unfold toI
  rw [List.map_map]
  simp [Function.comp_def]
theorem sL_terms {a b x : List Int} {cs : List (List Int)} : sL (termsF a b cs) (fun t=>valN t.1 x * t.2.1) = sL cs fun c=>ruleF a b c * valN c x:=by
  unfold termsF
  rw [sL_flat]
  refine sL_congr fun c _=>?_
  have h0:=rule_nn (a:=a) (b:=b) (c:=c)
  unfold termF
  by_cases h : 0 < ruleF a b c
  · rw [if_pos h,sL_cons,sL_nil,Int.add_zero];exact Int.mul_comm ..
  · rw [if_neg h,sL_nil,show ruleF a b c = 0 by omega];simp
theorem ring_val {a b x : List Int} (ha : shapeB a = true) (hb : shapeB b = true) (h8 : boxW a + boxW b ≤ 8) : sL (termsF a b (shapesF (boxW a + boxW b))) (fun t=>valN t.1 x * t.2.1) = valN a x * valN b x:=by
  obtain ⟨p,rfl,bp,p8,pm,_⟩:=shape_PP ha
  obtain ⟨q,rfl,bq,q8,qm,_⟩:=shape_PP hb
  rw [sL_terms]
  unfold valN schN
  rw [toN_toI,toN_toI,ring_eq (by omega) pm qm]
  unfold shapesF
  rw [show (boxW (toI p) + boxW (toI q)).toNat = p.sum + q.sum by omega,sL_map]
  refine sL_congr fun r hr=>?_
  rw [toN_toI,rule_ref ⟨ha,hb,P_shape (p.sum + q.sum) (List.mem_range.2 (by omega)) r hr⟩]
theorem okX_rev {x : List Int} (h : okX x) : okX x.reverse:=⟨by simpa using h.1,by simpa using h.2.1,fun a ha=>h.2.2 a (by simpa using ha)⟩
theorem sch_rev {a x : List Int} (ha : shapeB a = true) : schW a x.reverse = schW a x:=by
  obtain ⟨p,rfl,_,p8,pm,_⟩:=shape_PP ha
  unfold schW
  rw [toN_toI,schN_rev (allP_iff.2 ⟨p.sum,p8,pm⟩)]
theorem okX_take {x : List Int} (h : okX x) : x.take 12 = x:=List.take_of_length_le (by have:=h.2.1;omega)
set_option maxHeartbeats 4000000 in
theorem goal14 : con14.goal Try.prog (spS [con59,con20s] [con20,con28b,con52,con39,con24]) g14_sh [] lm30:=by
  have e : (∀ (a b x:List Int),(small a ∧ small b ∧ small x) → g14 a b x = some (true,())) = con14.goal Try.prog (spS [con59,con20s] [con20,con28b,con52,con39,con24]) g14_sh [] lm30:=by kernel_rfl
  rw [← e]
  rintro a b x ⟨ha,hb,hx⟩
  have h12 : ∀ l : List Int,(l.take 12).length ≤ 1000:=fun l=>by rw [List.length_take];omega
  unfold g14
  have hrv : (revI (x.take 12)).length = (x.take 12).length:=by simp [revI]
  have hrt : List.take (x.take 12).length (revI (x.take 12)) = revI (x.take 12):=List.take_of_length_le (by omega)
  simp only [List.drop_zero,List.take_length,Nat.zero_add,Nat.le_refl,gd_true,hrv,hrt,h12 a,h12 b,h12 x,and_self,schF2_take,prod_take]
  by_cases hA : shapeB a = true ∧ okX x
  · by_cases hB : shapeB b = true ∧ okX x
    · obtain ⟨sa,sx⟩:=hA
      have sb:=hB.1
      have ea : schF2 a x = (schW a x,0,()):=if_pos ⟨sa,sx⟩
      have eb : schF2 b x = (schW b x,0,()):=if_pos ⟨sb,sx⟩
      have er : schF2 (a.take 12) (revI (x.take 12)) = (schW a x,0,()):=by
        rw [okX_take sx,shape_take_id sa]
        show schF2 a x.reverse = _
        unfold schF2
        rw [if_pos ⟨sa,okX_rev sx⟩,sch_rev sa]
      rw [ea,eb,er]
      have s1:=shape_sum sa
      have s2:=shape_sum sb
      simp only [show ieq (0:Int) 0 = true from rfl,show ieq (schW a x) (schW a x) = true from ieq_iff.2 rfl,Bool.not_true,Bool.not_false,cond_true,cond_false,Bool.false_eq_true,false_implies,gd_true,true_implies,true_and,Bool.true_eq_false,and_true]
      by_cases h8 : 8 < boxW a + boxW b
      · rw [prod_ok sa sb,if_pos h8]
        simp [gd_true,ieq]
      · have hrv:=ring_val (x:=x) sa sb (by omega)
        rw [prod_ok sa sb,if_neg h8]
        have pl' : (termsF a b (shapesF (boxW a + boxW b))).length ≤ 1000:=by
          have h1:=terms_len (x:=a) (y:=b) (a:=shapesF (boxW a + boxW b))
          have h2:=shapes_len (n:=boxW a + boxW b) (by omega) (by omega)
          omega
        have hsh : ∀ t ∈ termsF a b (shapesF (boxW a + boxW b)),shapeB t.1 = true:=fun t ht=>shapes_mem (by omega) (by omega) (terms_mem ht).1
        simp only [show ieq (0:Int) 0 = true from rfl,Bool.not_true,cond_false]
        generalize termsF a b (shapesF (boxW a + boxW b)) = L at hrv pl' hsh ⊢
        have h0 : wr .i64 (sL (L.take 0) (fun t=>valN t.1 x * t.2.1)) = 0:=by rw [List.take_zero,sL_nil];rfl
        rw [show (((0:Int),(0:Int),()) : Int × Int × Unit) = (fun i : Nat=>((wr .i64 (sL (L.take i) (fun t=>valN t.1 x * t.2.1)),(i:Int),()) : Int × Int × Unit)) 0 from by show _ = (wr .i64 (sL (L.take 0) _),_,());rw [h0];rfl]
        refine whileO_ind (fun i : Nat=>((wr .i64 (sL (L.take i) (fun t=>valN t.1 x * t.2.1)),(i:Int),()) : Int × Int × Unit)) L.length (true,()) (fun i hlt=>?_) ?_
        · have hs:=hsh _ (List.getElem_mem hlt)
          have hl:=(shape_sum hs).2.2.2
          have ei : schF2 L[i].1 x = (schW L[i].1 x,0,()):=if_pos ⟨hs,sx⟩
          have ei2 : schF2 L[i].1 (x.take 12) = (schW L[i].1 x,0,()):=by rw [okX_take sx];exact ei
          have hg : L.getD i (([]:List Int),(0:Int),()) = L[i]:=by rw [List.getD_eq_getElem?_getD,List.getElem?_eq_getElem hlt];rfl
          have hsum : wr .i64 (sL (L.take (i + 1)) (fun t=>valN t.1 x * t.2.1)) = wr .i64 (wr .i64 (sL (L.take i) (fun t=>valN t.1 x * t.2.1)) + wr .i64 (schW L[i].1 x * L[i].2.1)):=by
            have e1 : wr .i64 (schW L[i].1 x * L[i].2.1) = wr .i64 (valN L[i].1 x * L[i].2.1):=by unfold schW valN;exact wr_mul_l
            rw [e1,wr_add_l,wr_add_r,List.take_succ_eq_append_getElem hlt,sL_app,sL_cons,sL_nil,Int.add_zero]
          simp only [ilt_iff.2 (show (i:Int) < (L.length:Int) by omega),cond_true,Int.toNat_natCast,hg,ei2,show ieq (0:Int) 0 = true from rfl,Bool.not_true,cond_false]
          rw [gd_pos ⟨by omega,by omega⟩,gd_pos (by omega)]
          rw [gd_pos (by omega)]
          rw [wr_id (n:=(i:Int) + 1) (by omega),hsum]
          rfl
        · simp only [ilt_false.2 (Int.le_refl _),cond_false,List.take_length,hrv]
          have : wr .i64 (valN a x * valN b x) = wr .i64 (schW a x * schW b x):=by
            unfold schW
            rw [wr_mul_l,wr_mul_r];rfl
          rw [this]
          simp [gd_true,ieq]
    · have eb : schF2 b x = (0,2,()):=if_neg hB
      rw [eb]
      cases h : ieq (schF2 a x).2.1 0 <;> cases h' : ieq (schF2 a x).2.1 2 <;> simp [gd_true,ieq]
  · have ea : schF2 a x = (0,2,()):=if_neg hA
    rw [ea]
    simp [gd_true,ieq]
set_option maxRecDepth 100000 in
theorem ok14 : con14.Ok Try.prog:=Con.of_goalS mixed (okC ok20 (okC ok28 (okC ok52 (okC ok39 (okC ok24 okN))))) (okS ok59 (okS ok20s okS0)) con14 goal14
end Go.Schur
