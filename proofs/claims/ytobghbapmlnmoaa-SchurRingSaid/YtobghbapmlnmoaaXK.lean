/- The rule of strips for values. -/
import Derived.Test.YtobghbapmlnmoaaK1
set_option linter.unusedVariables false
set_option linter.unusedSimpArgs false
namespace Go.Schur
open Go Go.Ab Go.Proofs
theorem sR_zero : ∀ {ys : List Int} {l : List Nat},sR ys (l ++ [0]) = sR ys l
  | [],l=>by simp [sR,isZ]
  | y :: ys,l=>by
    rw [sR,sR,subs_zero,sL_map]
    refine sL_congr fun ν _=>?_
    rw [sR_zero];simp
theorem sR_zeros {ys : List Int} {l : List Nat} {z : Nat} : sR ys (l ++ List.replicate z 0) = sR ys l:=by
  induction z with
  | zero=>simp
  | succ z ih=>rw [List.replicate_succ',← List.append_assoc,sR_zero,ih]
theorem sR_strip {ys : List Int} {l : List Nat} (h : Dec l) : sR ys l = sR ys (strip l):=by
  obtain ⟨z,hz⟩:=strip_dec h
  rw [hz,sR_zeros,← hz]
theorem sR_less {y : Int} {ys : List Int} {p : List Nat} (hp : p ∈ allP) : sR (y :: ys) p = sL (List.range (p.sum + 1)) fun k=>pw y k * sL (less k p) (sR ys):=by
  rw [sR]
  have e1 : (sL (subs p) fun ν=>pw y (p.sum - ν.sum) * sR ys ν) = sL (subs p) fun ν=>sL (List.range (p.sum + 1)) fun k=>cond (Nat.beq (ν.sum + k) p.sum) (pw y k * sR ys ν) 0:=sL_congr fun ν hν=>by
    have:=subs_sum hν
    rw [sL_single (a:=p.sum - ν.sum) List.nodup_range (List.mem_range.2 (by omega)) (fun b _=>by rw [Nat.beq_eq];omega)]
  rw [e1,sL_comm]
  refine sL_congr fun k hk=>?_
  have hk:=List.mem_range.1 hk
  rw [← sL_filter (p:=fun ν=>Nat.beq (ν.sum + k) p.sum) (f:=fun ν=>pw y k * sR ys ν),sL_mul,← subs_less p hp k (List.mem_range.2 hk),sL_map]
  congr 1
  exact sL_congr fun ν hν=>sR_strip (subs_dec (List.mem_filter.1 hν).1).1
def hR (ys:List Int) (r:Nat) : Int:=sR ys [r]
theorem hR_step {y : Int} {ys : List Int} {r : Nat} : hR (y :: ys) r = sL (List.range (r + 1)) fun v=>pw y (r - v) * hR ys v:=by
  unfold hR
  rw [sR]
  have : subs [r] = (List.range (r + 1)).map fun v=>[v]:=by
    show (upTo 0 r).flatMap _ = _
    simp [upTo,subs,List.flatMap_def,List.map_map]
    induction (List.range (r + 1)) with
    | nil=>rfl
    | cons a l ih=>simp [Function.comp] at ih ⊢;exact ih
  rw [this,sL_map]
  exact sL_congr fun v _=>by simp
theorem sL_range_shift {n m d : Nat} {G : Nat → Int} (hd : d + m ≤ n) (h1 : ∀ k,k < d → G k = 0) (h2 : ∀ k,d + m ≤ k → k < n → G k = 0) : sL (List.range n) G = sL (List.range m) fun j=>G (d + j):=by
  have e : List.range n = List.range d ++ ((List.range m).map (d + ·) ++ (List.range (n - d - m)).map (d + m + ·)):=by
    conv=>lhs;rw [show n = d + (m + (n - d - m)) by omega]
    rw [List.range_add,List.range_add,List.map_append,List.map_map]
    congr 3
    funext x;simp [Function.comp,Nat.add_assoc]
  rw [e,sL_app,sL_app,sL_map,sL_map]
  have z1 : sL (List.range d) G = 0:=Eq.trans (sL_congr (g:=fun _=>(0:Int)) fun k hk=>h1 k (List.mem_range.1 hk)) sL_zero
  have z2 : (sL (List.range (n - d - m)) fun a=>G (d + m + a)) = 0:=Eq.trans (sL_congr (g:=fun _=>(0:Int)) fun k hk=>h2 _ (by omega) (by have:=List.mem_range.1 hk;omega)) sL_zero
  rw [z1,z2];omega
theorem sL_const {A : Type} {l : List A} {c : Int} : sL l (fun _=>c) = (l.length:Int) * c:=by
  induction l with
  | nil=>simp [sL]
  | cons a l ih=>rw [sL_cons,ih,List.length_cons,show (((l.length + 1:Nat)):Int) = (l.length:Int) + 1 by omega,Int.add_mul,Int.one_mul,Int.add_comm]
theorem P_allP {n : Nat} {p : List Nat} (hn : n ≤ 8) (h : p ∈ P n) : p ∈ allP:=allP_iff.2 ⟨n,hn,h⟩
def more (n:Nat) (μ : List Nat) : List (List Nat):=(P n).filter fun p=>memb μ p
theorem pieri : ∀ {ys : List Int} {m r : Nat} {μ : List Nat},m + r ≤ 8 → μ ∈ P m → sR ys μ * hR ys r = sL (more (m + r) μ) (sR ys)
  | [],m,r,μ,h,hμ=>by
    have hs:=sum_P (by omega) hμ
    have key : ∀ n ∈ List.range 9,∀ p ∈ P n,isZ p = Nat.beq n 0:=by decide +kernel
    have e1 : sR [] μ = cond (Nat.beq m 0) 1 0:=by rw [sR,key m (List.mem_range.2 (by omega)) μ hμ]
    have e2 : hR [] r = cond (Nat.beq r 0) 1 0:=by unfold hR;rw [sR];cases r <;> rfl
    have e3 : sL (more (m + r) μ) (sR []) = sL (more (m + r) μ) fun _=>cond (Nat.beq (m + r) 0) 1 0:=sL_congr fun p hp=>by
      rw [sR,key (m + r) (List.mem_range.2 (by omega)) p (List.mem_filter.1 hp).1]
    rw [e1,e2,e3]
    by_cases hm : m = 0
    · subst hm
      by_cases hr : r = 0
      · subst hr
        have : μ = []:=by have : μ ∈ [[]]:=hμ;simpa using this
        subst this
        decide
      · have hb : Nat.beq r 0 = false:=by cases r with | zero=>exact absurd rfl hr | succ r=>rfl
        have hb2 : Nat.beq (0 + r) 0 = false:=by rw [Nat.zero_add];exact hb
        rw [hb,hb2]
        simp only [cond_false]
        rw [sL_zero];simp
    · have hb : Nat.beq m 0 = false:=by cases m with | zero=>exact absurd rfl hm | succ r=>rfl
      have hb2 : Nat.beq (m + r) 0 = false:=by cases m with | zero=>exact absurd rfl hm | succ m=>rw [Nat.succ_add];rfl
      rw [hb,hb2]
      simp only [cond_false]
      rw [sL_zero];simp
  | y :: ys,m,r,μ,h,hμ=>by
    have hs:=sum_P (by omega) hμ
    have hall:=P_allP (by omega) hμ
    let C : Nat → Nat → List Nat → Int:=fun k v ν=>if v ≤ m + r - k then (bothL (m + r - k - v) μ ν:Int) else 0
    have hR1 : sL (more (m + r) μ) (sR (y :: ys)) = sL (List.range (m + r + 1)) fun k=>pw y k * sL (P (m + r - k)) fun ν=>(bothM (m + r) μ ν:Int) * sR ys ν:=by
      have e1 : sL (more (m + r) μ) (sR (y :: ys)) = sL (more (m + r) μ) fun p=>sL (List.range (m + r + 1)) fun k=>pw y k * sL ((P (m + r - k)).filter fun ν=>memb ν p) (sR ys):=sL_congr fun p hp=>by
        have hpP:=(List.mem_filter.1 hp).1
        have:=sum_P (by omega) hpP
        rw [sR_less (P_allP (by omega) hpP),this]
        unfold less
        rw [this]
      rw [e1,sL_comm]
      refine sL_congr fun k _=>?_
      rw [sL_mul,sL_swap (r:=fun p ν=>memb ν p) (f:=fun _ ν=>sR ys ν)]
      congr 1
      refine sL_congr fun ν _=>?_
      rw [sL_const]
      unfold bothM more
      rw [List.filter_filter]
      congr 3
      exact List.filter_congr fun p _=>Bool.and_comm ..
    have hL1 : sR (y :: ys) μ * hR (y :: ys) r = sL (List.range (r + 1)) fun v=>sL (List.range (m + 1)) fun k1=>pw y (r - v + k1) * sL (P (m - k1 + v)) fun ν=>(bothL (m - k1) μ ν:Int) * sR ys ν:=by
      rw [hR_step,← sL_mul]
      refine sL_congr fun v hv=>?_
      have hv:=List.mem_range.1 hv
      rw [sR_less hall,hs,← sL_mulr]
      refine sL_congr fun k1 hk=>?_
      have hk:=List.mem_range.1 hk
      have e2 : sL (less k1 μ) (sR ys) * hR ys v = sL (P (m - k1 + v)) fun ν=>(bothL (m - k1) μ ν:Int) * sR ys ν:=by
        rw [← sL_mulr]
        have e3 : (sL (less k1 μ) fun a=>sR ys a * hR ys v) = sL (less k1 μ) fun a=>sL ((P (m - k1 + v)).filter fun ν=>memb a ν) fun ν=>sR ys ν:=sL_congr fun a ha=>pieri (by omega) (less_P (by omega) hμ ha)
        rw [e3,sL_swap (r:=fun a ν=>memb a ν) (f:=fun _ ν=>sR ys ν)]
        refine sL_congr fun ν _=>?_
        rw [sL_const]
        unfold bothL less
        rw [List.filter_filter,hs]
        congr 3
        exact List.filter_congr fun p _=>Bool.and_comm ..
      rw [pw_add,← e2]
      simp only [Int.mul_assoc,Int.mul_comm,Int.mul_left_comm]
    rw [hL1,hR1]
    have hT : ∀ k,k ≤ m + r → ∀ ν ∈ P (m + r - k),(bothM (m + r) μ ν:Int) = sL (List.range (r + 1)) fun v=>C k v ν:=fun k hk ν hν=>by
      have:=strips μ hall r (List.mem_range.2 (by omega)) k (List.mem_range.2 (by omega)) ν (by rw [hs];exact hν)
      rw [hs] at this
      rw [this]
      unfold sumN'
      rw [sum_cast,sL_map]
      refine sL_congr fun v _=>?_
      show (((if v ≤ m + r - k then bothL (m + r - k - v) μ ν else 0:Nat)):Int) = C k v ν
      unfold C
      split <;> rfl
    have e4 : (sL (List.range (m + r + 1)) fun k=>pw y k * sL (P (m + r - k)) fun ν=>(bothM (m + r) μ ν:Int) * sR ys ν) = sL (List.range (r + 1)) fun v=>sL (List.range (m + r + 1)) fun k=>pw y k * sL (P (m + r - k)) fun ν=>C k v ν * sR ys ν:=by
      rw [sL_comm]
      refine sL_congr fun k hk=>?_
      have hk:=List.mem_range.1 hk
      rw [sL_mul,sL_comm]
      congr 1
      refine sL_congr fun ν hν=>?_
      rw [sL_mulr,hT k (by omega) ν hν]
    rw [e4]
    refine sL_congr fun v hv=>?_
    have hv:=List.mem_range.1 hv
    have hz : ∀ k,(∀ ν ∈ P (m + r - k),C k v ν = 0) → pw y k * sL (P (m + r - k)) (fun ν=>C k v ν * sR ys ν) = 0:=fun k hk=>by
      have : sL (P (m + r - k)) (fun ν=>C k v ν * sR ys ν) = 0:=Eq.trans (sL_congr (g:=fun _=>(0:Int)) fun ν hν=>by rw [hk ν hν];simp) sL_zero
      rw [this];simp
    rw [sL_range_shift (n:=m + r + 1) (d:=r - v) (m:=m + 1) (by omega)]
    · refine sL_congr fun k1 hk=>?_
      have hk:=List.mem_range.1 hk
      rw [show m + r - (r - v + k1) = m - k1 + v by omega]
      congr 1
      refine sL_congr fun ν _=>?_
      congr 1
      show _ = if v ≤ m + r - (r - v + k1) then (bothL (m + r - (r - v + k1) - v) μ ν:Int) else 0
      rw [if_pos (by omega),show m + r - (r - v + k1) - v = m - k1 by omega]
    · intro k hk
      refine hz k fun ν hν=>?_
      show (if v ≤ m + r - k then (bothL (m + r - k - v) μ ν:Int) else 0) = 0
      rw [if_pos (by omega)]
      have : bothL (m + r - k - v) μ ν = 0:=by
        unfold bothL
        rw [List.length_eq_zero_iff,List.filter_eq_nil_iff]
        intro l hl hb
        simp only [Bool.and_eq_true] at hb
        have h1:=memb_le l (P_allP (by omega) hl) μ hall hb.1
        have h2:=sum_P (by omega) hl
        omega
      rw [this];rfl
    · intro k hk hk2
      refine hz k fun ν hν=>?_
      show (if v ≤ m + r - k then (bothL (m + r - k - v) μ ν:Int) else 0) = 0
      rw [if_neg (by omega)]
end Go.Schur
namespace Go.Schur
open Go Go.Ab Go.Proofs
def cutC (j:Nat) (r:List Int) : List Int:=r.take j ++ r.drop (j + 1)
end Go.Schur
namespace Go.Schur
open Go Go.Ab Go.Proofs
end Go.Schur
namespace Go.Schur
open Go Go.Ab Go.Proofs
abbrev Vec:=List (List Nat × Int)
def evV (ys:List Int) (v : Vec) : Int:=sL v fun a=>a.2 * sR ys a.1
def hZ (ys:List Int) (e:Int) : Int:=if e < 0 then 0 else hR ys e.toNat
def deLoop (ys:List Int) (D : List (List Int) → Int) (rest:List (List Int)) : List Int → Nat → Int → Int
  | [],_,_=>0
  | e :: es,j,sg=>sg * hZ ys e * D (rest.map (cutC j)) + deLoop ys D rest es (j + 1) (-sg)
def detE (ys:List Int) : Nat → List (List Int) → Int
  | 0,_=>0
  | k + 1,t=>match t with
    | []=>1
    | r0 :: rest=>deLoop ys (detE ys k) rest r0 0 1
def addH (r:Nat) (sg:Int) (v : Vec) : Vec:=v.flatMap fun a=>(more (a.1.sum + r) a.1).map fun p=>(p,sg * a.2)
def fitsH (r:Nat) (v : Vec) : Bool:=v.all fun a=>Nat.ble (a.1.sum + r) 8
def dvLoop (D : List (List Int) → Option Vec) (rest:List (List Int)) : List Int → Nat → Int → Option Vec
  | [],_,_=>some []
  | e :: es,j,sg=>match decide (e < 0) with
    | true=>dvLoop D rest es (j + 1) (-sg)
    | false=>match D (rest.map (cutC j)) with
      | none=>none
      | some v=>match fitsH e.toNat v,dvLoop D rest es (j + 1) (-sg) with
        | true,some w=>some (addH e.toNat sg v ++ w)
        | _,_=>none
def detV : Nat → List (List Int) → Option Vec
  | 0,_=>none
  | k + 1,t=>match t with
    | []=>some [([],1)]
    | r0 :: rest=>dvLoop (detV k) rest r0 0 1
def okV (v : Vec) : Prop:=∀ a ∈ v,∃ n,n ≤ 8 ∧ a.1 ∈ P n
theorem evV_app {ys : List Int} {v w : Vec} : evV ys (v ++ w) = evV ys v + evV ys w:=sL_app
theorem addH_ok {ys : List Int} {r : Nat} {sg : Int} {v : Vec} (hv : okV v) (hf : fitsH r v = true) : okV (addH r sg v) ∧ evV ys (addH r sg v) = sg * hR ys r * evV ys v:=by
  have hf : ∀ a ∈ v,a.1.sum + r ≤ 8:=fun a ha=>Nat.le_of_ble_eq_true (List.all_eq_true.1 hf a ha)
  refine ⟨fun b hb=>?_,?_⟩
  · obtain ⟨a,ha,hb⟩:=List.mem_flatMap.1 hb
    obtain ⟨p,hp,rfl⟩:=List.mem_map.1 hb
    exact ⟨a.1.sum + r,hf a ha,(List.mem_filter.1 hp).1⟩
  · unfold evV addH
    rw [sL_flat,← sL_mul]
    refine sL_congr fun a ha=>?_
    obtain ⟨n,hn,hp⟩:=hv a ha
    have hs:=sum_P hn hp
    have h8:=hf a ha
    rw [sL_map]
    have : (sL (more (a.1.sum + r) a.1) fun p=>sg * a.2 * sR ys p) = sg * a.2 * (sR ys a.1 * hR ys r):=by
      rw [sL_mul,hs,pieri (by omega) hp]
    rw [this]
    simp only [Int.mul_assoc,Int.mul_comm,Int.mul_left_comm]
theorem detV_eq {ys : List Int} : ∀ {k : Nat} {t : List (List Int)} {v : Vec},detV k t = some v → okV v ∧ detE ys k t = evV ys v
  | 0,t,v,h=>by cases h
  | k + 1,t,v,h=>by
    cases t with
    | nil =>
      cases h
      refine ⟨fun a ha=>⟨0,by omega,by rw [List.mem_singleton.1 ha];decide⟩,?_⟩
      have : sR ys [] = 1:=by
        clear detV_eq
        induction ys with
        | nil=>rfl
        | cons y ys ih =>
          rw [sR]
          simp [subs,sL,ih,pw]
      simp [detE,evV,sL,this]
    | cons r0 rest =>
      have key : ∀ (es:List Int) (j:Nat) (sg:Int) (w : Vec),dvLoop (detV k) rest es j sg = some w → okV w ∧ deLoop ys (detE ys k) rest es j sg = evV ys w:=by
        intro es
        induction es with
        | nil =>
          intro j sg w h
          cases h
          exact ⟨fun a ha=>(nomatch ha),rfl⟩
        | cons e es ih =>
          intro j sg w h
          rw [dvLoop] at h
          rw [deLoop]
          by_cases he : e < 0
          · rw [decide_eq_true he] at h
            obtain ⟨h1,h2⟩:=ih _ _ _ h
            refine ⟨h1,?_⟩
            rw [h2];simp [hZ,he]
          · rw [decide_eq_false he] at h
            simp only at h
            cases hD : detV k (rest.map (cutC j)) with
            | none=>rw [hD] at h;cases h
            | some v =>
              rw [hD] at h
              simp only at h
              obtain ⟨v1,v2⟩:=detV_eq hD
              cases hf : fitsH e.toNat v with
              | false=>rw [hf] at h;cases h
              | true =>
                rw [hf] at h
                cases hw : dvLoop (detV k) rest es (j + 1) (-sg) with
                | none=>rw [hw] at h;cases h
                | some u =>
                  rw [hw] at h
                  cases h
                  obtain ⟨u1,u2⟩:=ih _ _ _ hw
                  obtain ⟨a1,a2⟩:=addH_ok (ys:=ys) (sg:=sg) v1 hf
                  refine ⟨fun a ha=>?_,?_⟩
                  · rcases List.mem_append.1 ha with h | h
                    · exact a1 a h
                    · exact u1 a h
                  · rw [evV_app,a2,u2,v2]
                    simp [hZ,he]
      exact key r0 0 1 v h
def matI (p : List Nat) : List (List Int):=(List.range p.length).map fun (i:Nat)=>(List.range p.length).map fun (j:Nat)=>((p.getD i 0:Nat):Int) - (i:Int) + (j:Int)
def coefV (v : Vec) (p : List Nat) : Int:=(v.map fun a=>cond (decide (a.1 = p)) a.2 0).sum
def jtOk (p : List Nat) : Bool:=match detV 9 (matI p) with
  | some v=>v.all (fun a=>Nat.beq a.1.sum p.sum) && (P p.sum).all fun q=>decide (coefV v q = cond (decide (q = p)) 1 0)
  | none=>false
def jtC (p : List Nat) : Bool:=Nat.ble p.length 4 && Nat.ble (p.headD 0 + p.length) 9
set_option maxRecDepth 100000 in
theorem jt_all : ∀ p ∈ allP,jtC p = true → jtOk p = true:=by decide +kernel
theorem P_nodup : ∀ n ∈ List.range 9,(P n).Nodup:=by decide +kernel
theorem jt {ys : List Int} {p : List Nat} (hp : p ∈ allP) (hc : jtC p = true) : detE ys 9 (matI p) = sR ys p:=by
  have h:=jt_all p hp hc
  obtain ⟨n,hn,hpn⟩:=allP_iff.1 hp
  have hs:=sum_P hn hpn
  unfold jtOk at h
  cases hv : detV 9 (matI p) with
  | none=>rw [hv] at h;cases h
  | some v =>
    rw [hv] at h
    simp only [Bool.and_eq_true] at h
    obtain ⟨h1,h2⟩:=h
    obtain ⟨v1,v2⟩:=detV_eq (ys:=ys) hv
    have hnd:=P_nodup n (List.mem_range.2 (by omega))
    have hin : ∀ a ∈ v,a.1 ∈ P n:=fun a ha=>by
      obtain ⟨m,hm,ham⟩:=v1 a ha
      have e1:=Nat.eq_of_beq_eq_true (List.all_eq_true.1 h1 a ha)
      have e2:=sum_P hm ham
      have : m = n:=by omega
      rw [← this];exact ham
    have e1 : evV ys v = sL (P n) fun q=>coefV v q * sR ys q:=by
      unfold evV
      have : (sL v fun a=>a.2 * sR ys a.1) = sL v fun a=>sL (P n) fun q=>cond (decide (q = a.1)) (a.2 * sR ys q) 0:=sL_congr fun a ha=>by
        rw [sL_single (g:=fun q=>a.2 * sR ys q) (p:=fun q=>decide (q = a.1)) hnd (hin a ha) (fun b _=>by simp)]
      rw [this,sL_comm]
      refine sL_congr fun q _=>?_
      unfold coefV
      show _ = (sL v fun a=>cond (decide (a.1 = q)) a.2 0) * _
      rw [← sL_mulr]
      refine sL_congr fun a _=>?_
      by_cases hq : q = a.1
      · rw [decide_eq_true hq,decide_eq_true hq.symm];rfl
      · rw [decide_eq_false hq,decide_eq_false (fun h=>hq h.symm)];simp
    rw [v2,e1]
    have e2 : (sL (P n) fun q=>coefV v q * sR ys q) = sL (P n) fun q=>cond (decide (q = p)) (sR ys q) 0:=sL_congr fun q hq=>by
      have:=of_decide_eq_true (List.all_eq_true.1 h2 q (by rw [hs];exact hq))
      rw [this]
      cases decide (q = p) <;> simp
    rw [e2,sL_single hnd hpn (fun b _=>by simp)]
end Go.Schur
namespace Go.Schur
open Go Go.Ab Go.Proofs
def hW (x:List Int) (e:Int) : Int:=if e < 0 then 0 else if e = 0 then 1 else schW [e] x
def hA (x:List Int) (n:Nat) : List Int:=(List.range 20).map fun i=>if i < 10 then 0 else if i = 10 then 1 else if i < n + 10 then schW [((i - 10:Nat):Int)] x else 0
end Go.Schur
