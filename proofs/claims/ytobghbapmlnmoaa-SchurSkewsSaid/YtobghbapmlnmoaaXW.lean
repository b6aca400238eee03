/- lattice: region 8,at 1. -/
import Derived.Test.YtobghbapmlnmoaaXU
namespace Go.Schur
open Go Go.Proofs Go.RowKit Go.Shelf
attribute [local go_sem] Oper.semAt_some
set_option maxRecDepth 100000
set_option maxHeartbeats 4000000
theorem zbb (F:Fence) (l n:Nat) (hro:F.round=none) (hmx:Try.prog.follows .mixedOrders=true) (v0 v1 v2 v4 v5 v6 v8 v9 v10 v11 v12 v13 v14 v15 v16 v17 v18 v19 v20 v21 v22 v35:Value) (B:Nat) (W:World) (d e:Int)
  (K:Act→World→Prop) (Q:Exit→Act→World→Prop) (hK:K { tmps:=#[v0,v1,v2,Value.pointer (some ⟨B,0,none⟩),v4,v5,v6,Value.int IntKind.i64 1,v8,v9,v10,v11,v12,v13,v14,v15,v16,v17,v18,v19,v20,v21,v22,Value.int IntKind.i64 1,Value.bool false,Value.bool false,undef,undef,undef,undef,undef,undef,undef,undef,Value.bool false,v35],defers:=[] } W.drew) :
  Code.wpIn (F.inRound l) n Try.prog (Code.region 8 ops8 true) (Exit.then K Q) { tmps:=#[v0,v1,v2,Value.pointer (some ⟨B,0,none⟩),v4,v5,v6,Value.int IntKind.i64 1,v8,v9,v10,v11,v12,v13,v14,v15,v16,v17,v18,v19,v20,v21,v22,undef,undef,undef,undef,undef,undef,undef,undef,undef,undef,undef,undef,v35],defers:=[] } W:=by
 rw [ops8]
 gi_region
 all_goals exact hK
attribute [local go_sem] Oper.semAt_some
theorem za1 (F:Fence) (l n:Nat) (hro:F.round=none) (hmx:Try.prog.follows .mixedOrders=true) (v0 v1 v2 v4 v5 v6 v8 v9 v10 v11 v12 v13 v14 v15 v16 v17 v18 v19 v20 v21 v22 v35:Value) (B:Nat) (W:World) (d e:Int) (hc:W.cell? ⟨B,2,none⟩=some (Value.int IntKind.i64 d)) (hcp:W.cell? ⟨B,1,none⟩=some (Value.int IntKind.i64 e))
  (K:Act→World→Prop) (Q:Exit→Act→World→Prop) (hK:K { tmps:=#[v0,v1,v2,Value.pointer (some ⟨B,0,none⟩),v4,v5,v6,Value.int IntKind.i64 2,v8,v9,v10,v11,v12,v13,v14,v15,v16,v17,v18,v19,v20,v21,v22,Value.int IntKind.i64 2,Value.bool true,Value.bool true,Value.int IntKind.i64 2,Value.pointer (some ⟨B,2,none⟩),Value.int IntKind.i64 d,Value.int IntKind.i64 2,Value.int IntKind.i64 1,Value.pointer (some ⟨B,1,none⟩),Value.int IntKind.i64 e,Value.bool (decide (e<d)),Value.bool (decide (e<d)),v35],defers:=[] } W.drew) :
  Code.wpIn (F.inRound l) n Try.prog (Code.region 8 ops8 true) (Exit.then K Q) { tmps:=#[v0,v1,v2,Value.pointer (some ⟨B,0,none⟩),v4,v5,v6,Value.int IntKind.i64 2,v8,v9,v10,v11,v12,v13,v14,v15,v16,v17,v18,v19,v20,v21,v22,undef,undef,undef,undef,undef,undef,undef,undef,undef,undef,undef,undef,v35],defers:=[] } W:=by
 rw [ops8]
 gi_region
 all_goals exact hK
attribute [local go_sem] Oper.semAt_some
theorem zch (F:Fence) (l n:Nat) (hro:F.round=none) (hmx:Try.prog.follows .mixedOrders=true) (v0 v1 v2 v4 v5 v6 v8 v9 v10 v11 v12 v13 v14 v15 v16 v17 v18 v19 v20 v21 v22 v35:Value) (B:Nat) (W:World) (d e:Int) (hc:W.cell? ⟨B,3,none⟩=some (Value.int IntKind.i64 d)) (hcp:W.cell? ⟨B,2,none⟩=some (Value.int IntKind.i64 e))
  (K:Act→World→Prop) (Q:Exit→Act→World→Prop) (hK:K { tmps:=#[v0,v1,v2,Value.pointer (some ⟨B,0,none⟩),v4,v5,v6,Value.int IntKind.i64 3,v8,v9,v10,v11,v12,v13,v14,v15,v16,v17,v18,v19,v20,v21,v22,Value.int IntKind.i64 3,Value.bool true,Value.bool true,Value.int IntKind.i64 3,Value.pointer (some ⟨B,3,none⟩),Value.int IntKind.i64 d,Value.int IntKind.i64 3,Value.int IntKind.i64 2,Value.pointer (some ⟨B,2,none⟩),Value.int IntKind.i64 e,Value.bool (decide (e<d)),Value.bool (decide (e<d)),v35],defers:=[] } W.drew) :
  Code.wpIn (F.inRound l) n Try.prog (Code.region 8 ops8 true) (Exit.then K Q) { tmps:=#[v0,v1,v2,Value.pointer (some ⟨B,0,none⟩),v4,v5,v6,Value.int IntKind.i64 3,v8,v9,v10,v11,v12,v13,v14,v15,v16,v17,v18,v19,v20,v21,v22,undef,undef,undef,undef,undef,undef,undef,undef,undef,undef,undef,undef,v35],defers:=[] } W:=by
 rw [ops8]
 gi_region
 all_goals exact hK
attribute [local go_sem] Oper.semAt_some
theorem zcb (F:Fence) (l n:Nat) (hro:F.round=none) (hmx:Try.prog.follows .mixedOrders=true) (v0 v1 v2 v4 v5 v6 v8 v9 v10 v11 v12 v13 v14 v15 v16 v17 v18 v19 v20 v21 v22 v35:Value) (B:Nat) (W:World) (d e:Int) (hc:W.cell? ⟨B,4,none⟩=some (Value.int IntKind.i64 d)) (hcp:W.cell? ⟨B,3,none⟩=some (Value.int IntKind.i64 e))
  (K:Act→World→Prop) (Q:Exit→Act→World→Prop) (hK:K { tmps:=#[v0,v1,v2,Value.pointer (some ⟨B,0,none⟩),v4,v5,v6,Value.int IntKind.i64 4,v8,v9,v10,v11,v12,v13,v14,v15,v16,v17,v18,v19,v20,v21,v22,Value.int IntKind.i64 4,Value.bool true,Value.bool true,Value.int IntKind.i64 4,Value.pointer (some ⟨B,4,none⟩),Value.int IntKind.i64 d,Value.int IntKind.i64 4,Value.int IntKind.i64 3,Value.pointer (some ⟨B,3,none⟩),Value.int IntKind.i64 e,Value.bool (decide (e<d)),Value.bool (decide (e<d)),v35],defers:=[] } W.drew) :
  Code.wpIn (F.inRound l) n Try.prog (Code.region 8 ops8 true) (Exit.then K Q) { tmps:=#[v0,v1,v2,Value.pointer (some ⟨B,0,none⟩),v4,v5,v6,Value.int IntKind.i64 4,v8,v9,v10,v11,v12,v13,v14,v15,v16,v17,v18,v19,v20,v21,v22,undef,undef,undef,undef,undef,undef,undef,undef,undef,undef,undef,undef,v35],defers:=[] } W:=by
 rw [ops8]
 gi_region
 all_goals exact hK
attribute [local go_sem] Oper.semAt_some
theorem zbc (F:Fence) (l n:Nat) (hro:F.round=none) (hmx:Try.prog.follows .mixedOrders=true) (v0 v1 v2 v4 v5 v6 v8 v9 v10 v11 v12 v13 v14 v15 v16 v17 v18 v19 v20 v21 v22 v35:Value) (B:Nat) (W:World) (d e:Int) (hc:W.cell? ⟨B,5,none⟩=some (Value.int IntKind.i64 d)) (hcp:W.cell? ⟨B,4,none⟩=some (Value.int IntKind.i64 e))
  (K:Act→World→Prop) (Q:Exit→Act→World→Prop) (hK:K { tmps:=#[v0,v1,v2,Value.pointer (some ⟨B,0,none⟩),v4,v5,v6,Value.int IntKind.i64 5,v8,v9,v10,v11,v12,v13,v14,v15,v16,v17,v18,v19,v20,v21,v22,Value.int IntKind.i64 5,Value.bool true,Value.bool true,Value.int IntKind.i64 5,Value.pointer (some ⟨B,5,none⟩),Value.int IntKind.i64 d,Value.int IntKind.i64 5,Value.int IntKind.i64 4,Value.pointer (some ⟨B,4,none⟩),Value.int IntKind.i64 e,Value.bool (decide (e<d)),Value.bool (decide (e<d)),v35],defers:=[] } W.drew) :
  Code.wpIn (F.inRound l) n Try.prog (Code.region 8 ops8 true) (Exit.then K Q) { tmps:=#[v0,v1,v2,Value.pointer (some ⟨B,0,none⟩),v4,v5,v6,Value.int IntKind.i64 5,v8,v9,v10,v11,v12,v13,v14,v15,v16,v17,v18,v19,v20,v21,v22,undef,undef,undef,undef,undef,undef,undef,undef,undef,undef,undef,undef,v35],defers:=[] } W:=by
 rw [ops8]
 gi_region
 all_goals exact hK
attribute [local go_sem] Oper.semAt_some
theorem zbw (F:Fence) (l n:Nat) (hro:F.round=none) (hmx:Try.prog.follows .mixedOrders=true) (v0 v1 v2 v4 v5 v6 v8 v9 v10 v11 v12 v13 v14 v15 v16 v17 v18 v19 v20 v21 v22 v35:Value) (B:Nat) (W:World) (d e:Int) (hc:W.cell? ⟨B,6,none⟩=some (Value.int IntKind.i64 d)) (hcp:W.cell? ⟨B,5,none⟩=some (Value.int IntKind.i64 e))
  (K:Act→World→Prop) (Q:Exit→Act→World→Prop) (hK:K { tmps:=#[v0,v1,v2,Value.pointer (some ⟨B,0,none⟩),v4,v5,v6,Value.int IntKind.i64 6,v8,v9,v10,v11,v12,v13,v14,v15,v16,v17,v18,v19,v20,v21,v22,Value.int IntKind.i64 6,Value.bool true,Value.bool true,Value.int IntKind.i64 6,Value.pointer (some ⟨B,6,none⟩),Value.int IntKind.i64 d,Value.int IntKind.i64 6,Value.int IntKind.i64 5,Value.pointer (some ⟨B,5,none⟩),Value.int IntKind.i64 e,Value.bool (decide (e<d)),Value.bool (decide (e<d)),v35],defers:=[] } W.drew) :
  Code.wpIn (F.inRound l) n Try.prog (Code.region 8 ops8 true) (Exit.then K Q) { tmps:=#[v0,v1,v2,Value.pointer (some ⟨B,0,none⟩),v4,v5,v6,Value.int IntKind.i64 6,v8,v9,v10,v11,v12,v13,v14,v15,v16,v17,v18,v19,v20,v21,v22,undef,undef,undef,undef,undef,undef,undef,undef,undef,undef,undef,undef,v35],defers:=[] } W:=by
 rw [ops8]
 gi_region
 all_goals exact hK
attribute [local go_sem] Oper.semAt_some
theorem zc1 (F:Fence) (l n:Nat) (hro:F.round=none) (hmx:Try.prog.follows .mixedOrders=true) (v0 v1 v2 v4 v5 v6 v8 v9 v10 v11 v12 v13 v14 v15 v16 v17 v18 v19 v20 v21 v22 v35:Value) (B:Nat) (W:World) (d e:Int) (hc:W.cell? ⟨B,7,none⟩=some (Value.int IntKind.i64 d)) (hcp:W.cell? ⟨B,6,none⟩=some (Value.int IntKind.i64 e))
  (K:Act→World→Prop) (Q:Exit→Act→World→Prop) (hK:K { tmps:=#[v0,v1,v2,Value.pointer (some ⟨B,0,none⟩),v4,v5,v6,Value.int IntKind.i64 7,v8,v9,v10,v11,v12,v13,v14,v15,v16,v17,v18,v19,v20,v21,v22,Value.int IntKind.i64 7,Value.bool true,Value.bool true,Value.int IntKind.i64 7,Value.pointer (some ⟨B,7,none⟩),Value.int IntKind.i64 d,Value.int IntKind.i64 7,Value.int IntKind.i64 6,Value.pointer (some ⟨B,6,none⟩),Value.int IntKind.i64 e,Value.bool (decide (e<d)),Value.bool (decide (e<d)),v35],defers:=[] } W.drew) :
  Code.wpIn (F.inRound l) n Try.prog (Code.region 8 ops8 true) (Exit.then K Q) { tmps:=#[v0,v1,v2,Value.pointer (some ⟨B,0,none⟩),v4,v5,v6,Value.int IntKind.i64 7,v8,v9,v10,v11,v12,v13,v14,v15,v16,v17,v18,v19,v20,v21,v22,undef,undef,undef,undef,undef,undef,undef,undef,undef,undef,undef,undef,v35],defers:=[] } W:=by
 rw [ops8]
 gi_region
 all_goals exact hK
attribute [local go_sem] Oper.semAt_some
theorem za4 (F:Fence) (l n:Nat) (hro:F.round=none) (hmx:Try.prog.follows .mixedOrders=true) (v0 v1 v2 v4 v5 v6 v8 v9 v10 v11 v12 v13 v14 v15 v16 v17 v18 v19 v20 v21 v22 v35:Value) (B:Nat) (W:World) (d e:Int) (hc:W.cell? ⟨B,8,none⟩=some (Value.int IntKind.i64 d)) (hcp:W.cell? ⟨B,7,none⟩=some (Value.int IntKind.i64 e))
  (K:Act→World→Prop) (Q:Exit→Act→World→Prop) (hK:K { tmps:=#[v0,v1,v2,Value.pointer (some ⟨B,0,none⟩),v4,v5,v6,Value.int IntKind.i64 8,v8,v9,v10,v11,v12,v13,v14,v15,v16,v17,v18,v19,v20,v21,v22,Value.int IntKind.i64 8,Value.bool true,Value.bool true,Value.int IntKind.i64 8,Value.pointer (some ⟨B,8,none⟩),Value.int IntKind.i64 d,Value.int IntKind.i64 8,Value.int IntKind.i64 7,Value.pointer (some ⟨B,7,none⟩),Value.int IntKind.i64 e,Value.bool (decide (e<d)),Value.bool (decide (e<d)),v35],defers:=[] } W.drew) :
  Code.wpIn (F.inRound l) n Try.prog (Code.region 8 ops8 true) (Exit.then K Q) { tmps:=#[v0,v1,v2,Value.pointer (some ⟨B,0,none⟩),v4,v5,v6,Value.int IntKind.i64 8,v8,v9,v10,v11,v12,v13,v14,v15,v16,v17,v18,v19,v20,v21,v22,undef,undef,undef,undef,undef,undef,undef,undef,undef,undef,undef,undef,v35],defers:=[] } W:=by
 rw [ops8]
 gi_region
 all_goals exact hK
theorem reg8 (F:Fence) (l n:Nat) (hro:F.round=none) (hmx:Try.prog.follows .mixedOrders=true) (v0 v1 v2 v4 v5 v6 v8 v9 v10 v11 v12 v13 v14 v15 v16 v17 v18 v19 v20 v21 v22 v35:Value) (B:Nat) (W:World) (d e:Int) (j:Nat) (h2:2≤j) (h8:j≤8) (hc:W.cell? ⟨B,j,none⟩=some (Value.int IntKind.i64 d)) (hcp:W.cell? ⟨B,j-1,none⟩=some (Value.int IntKind.i64 e))
  (K:Act→World→Prop) (Q:Exit→Act→World→Prop) (hK:K { tmps:=#[v0,v1,v2,Value.pointer (some ⟨B,0,none⟩),v4,v5,v6,Value.int IntKind.i64 (j:Int),v8,v9,v10,v11,v12,v13,v14,v15,v16,v17,v18,v19,v20,v21,v22,Value.int IntKind.i64 (j:Int),Value.bool true,Value.bool true,Value.int IntKind.i64 (j:Int),Value.pointer (some ⟨B,j,none⟩),Value.int IntKind.i64 d,Value.int IntKind.i64 (j:Int),Value.int IntKind.i64 ((j-1:Nat):Int),Value.pointer (some ⟨B,j-1,none⟩),Value.int IntKind.i64 e,Value.bool (decide (e<d)),Value.bool (decide (e<d)),v35],defers:=[] } W.drew) :
  Code.wpIn (F.inRound l) n Try.prog (Code.region 8 ops8 true) (Exit.then K Q) { tmps:=#[v0,v1,v2,Value.pointer (some ⟨B,0,none⟩),v4,v5,v6,Value.int IntKind.i64 (j:Int),v8,v9,v10,v11,v12,v13,v14,v15,v16,v17,v18,v19,v20,v21,v22,undef,undef,undef,undef,undef,undef,undef,undef,undef,undef,undef,undef,v35],defers:=[] } W:=by
 have hj:j=2∨j=3∨j=4∨j=5∨j=6∨j=7∨j=8:=by omega
 rcases hj with rfl | rfl | rfl | rfl | rfl | rfl | rfl
 ·exact za1 F l n hro hmx _ _ _ _ _ _ _ _ _ _ _ _ _ _ _ _ _ _ _ _ _ _ B W d e hc hcp K Q hK
 ·exact zch F l n hro hmx _ _ _ _ _ _ _ _ _ _ _ _ _ _ _ _ _ _ _ _ _ _ B W d e hc hcp K Q hK
 ·exact zcb F l n hro hmx _ _ _ _ _ _ _ _ _ _ _ _ _ _ _ _ _ _ _ _ _ _ B W d e hc hcp K Q hK
 ·exact zbc F l n hro hmx _ _ _ _ _ _ _ _ _ _ _ _ _ _ _ _ _ _ _ _ _ _ B W d e hc hcp K Q hK
 ·exact zbw F l n hro hmx _ _ _ _ _ _ _ _ _ _ _ _ _ _ _ _ _ _ _ _ _ _ B W d e hc hcp K Q hK
 ·exact zc1 F l n hro hmx _ _ _ _ _ _ _ _ _ _ _ _ _ _ _ _ _ _ _ _ _ _ B W d e hc hcp K Q hK
 ·exact za4 F l n hro hmx _ _ _ _ _ _ _ _ _ _ _ _ _ _ _ _ _ _ _ _ _ _ B W d e hc hcp K Q hK
end Go.Schur
