/-
  No cell of these rows narrows 'for every input' (looked for: loops, veiled, ifaces, maps, wideKeys, modest, calm, conditions, laid).
  DERIVED. THE GIVEN ROWS OF THIS SEAT. 16 by the template 'for every input the law returns true; each argument reads behind the call as it read before'; 0 by the template 'total and deterministic' (their statements: YtffapeomfjfedaaTotals.lean).
  GIVEN WITH THE SEED: the statements are not yours to turn. If you find one false, say at which input.
  Laid BY PROGRAM, IN A SANDBOX (cutbox-rows.mjs): the forced cells as the released guide's own fill.sh prints them over the translation 32a938e8e170771e… (all of the seat's roots in one cut). By AI agents, Wed Nov 11 2026. No macro, syntax, notation, axiom, sorry.
-/
import Derived.Test.YtffapeomfjfedaaChecked
import GoSem.Claim
import GoSem.ClaimJoined
import GoSem.ClaimMapViews
import Derived.JoinedTies
import Derived.KernelRfl
namespace Go.Proofs.Ytffapeomfjfedaa
/- THE CELL 'sum', in the pinned program and in every row, IS THE sha256 OF THE DUMP (.gsa) THAT YtffapeomfjfedaaProg.lean LOADS. Nothing in Lean hashes anything: it is a label: what it is worth is what the hold of that sum in a sandbox is worth. -/
noncomputable def Try.pinned : Pinned := { name := "ytffapeomfjfedaa", sum := "32a938e8e170771e1fa58256cb14d5ce11305927b6f0d217ecdf86ded80de057", checked := Try.checked }
namespace Rows
def none {H : Type} : Left H := { results := [], args := [] }

/-- 'corsagelaw03.ArcsJoins': WHATEVER THE INPUT: true; the input reads as it did. -/
def arcsJoinsSpec : ChangeSpec := { name := "arcsJoins", fn := fun _ => fun
  | [d1, d2, d3] => { results := [.lit (.bool true)], args := [d1, d2, d3] }
  | _ => none }
def arcsJoinsRow : OpenClaim := { program := "ytffapeomfjfedaa", sum := "32a938e8e170771e1fa58256cb14d5ce11305927b6f0d217ecdf86ded80de057", func := "corsage/corsagelaw03.ArcsJoins", spec := "arcsJoins", unfollowed := true, recurses := true, plainKeys := false, apart := false }
def ArcsJoinsSaid : Prop := arcsJoinsRow.holds Try.pinned (OpenSpec.ofChange arcsJoinsSpec)

/-- ITS FALSE NEIGHBOUR: 'it returns false'. Refute it at one input. -/
def arcsJoinsWrong : ChangeSpec := { name := "arcsJoins", fn := fun _ => fun
  | [d1, d2, d3] => { results := [.lit (.bool false)], args := [d1, d2, d3] }
  | _ => none }
def ArcsJoinsWrongFalsely : Prop := arcsJoinsRow.holds Try.pinned (OpenSpec.ofChange arcsJoinsWrong)

/-- 'corsagelaw03.ArcsPlane': WHATEVER THE INPUT: true; the input reads as it did. -/
def arcsPlaneSpec : ChangeSpec := { name := "arcsPlane", fn := fun _ => fun
  | [d1, d2, d3] => { results := [.lit (.bool true)], args := [d1, d2, d3] }
  | _ => none }
def arcsPlaneRow : OpenClaim := { program := "ytffapeomfjfedaa", sum := "32a938e8e170771e1fa58256cb14d5ce11305927b6f0d217ecdf86ded80de057", func := "corsage/corsagelaw03.ArcsPlane", spec := "arcsPlane", unfollowed := true, recurses := true, plainKeys := false, apart := false }
def ArcsPlaneSaid : Prop := arcsPlaneRow.holds Try.pinned (OpenSpec.ofChange arcsPlaneSpec)

/-- ITS FALSE NEIGHBOUR: 'it returns false'. Refute it at one input. -/
def arcsPlaneWrong : ChangeSpec := { name := "arcsPlane", fn := fun _ => fun
  | [d1, d2, d3] => { results := [.lit (.bool false)], args := [d1, d2, d3] }
  | _ => none }
def ArcsPlaneWrongFalsely : Prop := arcsPlaneRow.holds Try.pinned (OpenSpec.ofChange arcsPlaneWrong)

/-- 'corsagelaw03.ArcsCross': WHATEVER THE INPUT: true; the input reads as it did. -/
def arcsCrossSpec : ChangeSpec := { name := "arcsCross", fn := fun _ => fun
  | [d1, d2] => { results := [.lit (.bool true)], args := [d1, d2] }
  | _ => none }
def arcsCrossRow : OpenClaim := { program := "ytffapeomfjfedaa", sum := "32a938e8e170771e1fa58256cb14d5ce11305927b6f0d217ecdf86ded80de057", func := "corsage/corsagelaw03.ArcsCross", spec := "arcsCross", unfollowed := true, recurses := true, plainKeys := false, apart := false }
def ArcsCrossSaid : Prop := arcsCrossRow.holds Try.pinned (OpenSpec.ofChange arcsCrossSpec)

/-- ITS FALSE NEIGHBOUR: 'it returns false'. Refute it at one input. -/
def arcsCrossWrong : ChangeSpec := { name := "arcsCross", fn := fun _ => fun
  | [d1, d2] => { results := [.lit (.bool false)], args := [d1, d2] }
  | _ => none }
def ArcsCrossWrongFalsely : Prop := arcsCrossRow.holds Try.pinned (OpenSpec.ofChange arcsCrossWrong)

/-- 'corsagelaw03.ArcsPoints': WHATEVER THE INPUT: true; the input reads as it did. -/
def arcsPointsSpec : ChangeSpec := { name := "arcsPoints", fn := fun _ => fun
  | [d1, d2, d3] => { results := [.lit (.bool true)], args := [d1, d2, d3] }
  | _ => none }
def arcsPointsRow : OpenClaim := { program := "ytffapeomfjfedaa", sum := "32a938e8e170771e1fa58256cb14d5ce11305927b6f0d217ecdf86ded80de057", func := "corsage/corsagelaw03.ArcsPoints", spec := "arcsPoints", unfollowed := true, recurses := true, plainKeys := false, apart := false }
def ArcsPointsSaid : Prop := arcsPointsRow.holds Try.pinned (OpenSpec.ofChange arcsPointsSpec)

/-- ITS FALSE NEIGHBOUR: 'it returns false'. Refute it at one input. -/
def arcsPointsWrong : ChangeSpec := { name := "arcsPoints", fn := fun _ => fun
  | [d1, d2, d3] => { results := [.lit (.bool false)], args := [d1, d2, d3] }
  | _ => none }
def ArcsPointsWrongFalsely : Prop := arcsPointsRow.holds Try.pinned (OpenSpec.ofChange arcsPointsWrong)

/-- 'corsagelaw03.ArcsBlocking': WHATEVER THE INPUT: true; the input reads as it did. -/
def arcsBlockingSpec : ChangeSpec := { name := "arcsBlocking", fn := fun _ => fun
  | [d1, d2] => { results := [.lit (.bool true)], args := [d1, d2] }
  | _ => none }
def arcsBlockingRow : OpenClaim := { program := "ytffapeomfjfedaa", sum := "32a938e8e170771e1fa58256cb14d5ce11305927b6f0d217ecdf86ded80de057", func := "corsage/corsagelaw03.ArcsBlocking", spec := "arcsBlocking", unfollowed := true, recurses := true, plainKeys := false, apart := false }
def ArcsBlockingSaid : Prop := arcsBlockingRow.holds Try.pinned (OpenSpec.ofChange arcsBlockingSpec)

/-- ITS FALSE NEIGHBOUR: 'it returns false'. Refute it at one input. -/
def arcsBlockingWrong : ChangeSpec := { name := "arcsBlocking", fn := fun _ => fun
  | [d1, d2] => { results := [.lit (.bool false)], args := [d1, d2] }
  | _ => none }
def ArcsBlockingWrongFalsely : Prop := arcsBlockingRow.holds Try.pinned (OpenSpec.ofChange arcsBlockingWrong)

/-- 'corsagelaw03.ArcsGreatest': WHATEVER THE INPUT: true; the input reads as it did. -/
def arcsGreatestSpec : ChangeSpec := { name := "arcsGreatest", fn := fun _ => fun
  | [d1, d2, d3] => { results := [.lit (.bool true)], args := [d1, d2, d3] }
  | _ => none }
def arcsGreatestRow : OpenClaim := { program := "ytffapeomfjfedaa", sum := "32a938e8e170771e1fa58256cb14d5ce11305927b6f0d217ecdf86ded80de057", func := "corsage/corsagelaw03.ArcsGreatest", spec := "arcsGreatest", unfollowed := true, recurses := true, plainKeys := false, apart := false }
def ArcsGreatestSaid : Prop := arcsGreatestRow.holds Try.pinned (OpenSpec.ofChange arcsGreatestSpec)

/-- ITS FALSE NEIGHBOUR: 'it returns false'. Refute it at one input. -/
def arcsGreatestWrong : ChangeSpec := { name := "arcsGreatest", fn := fun _ => fun
  | [d1, d2, d3] => { results := [.lit (.bool false)], args := [d1, d2, d3] }
  | _ => none }
def ArcsGreatestWrongFalsely : Prop := arcsGreatestRow.holds Try.pinned (OpenSpec.ofChange arcsGreatestWrong)

/-- 'corsagelaw03.ArcsRatio': WHATEVER THE INPUT: true; the input reads as it did. -/
def arcsRatioSpec : ChangeSpec := { name := "arcsRatio", fn := fun _ => fun
  | [d1, d2, d3] => { results := [.lit (.bool true)], args := [d1, d2, d3] }
  | _ => none }
def arcsRatioRow : OpenClaim := { program := "ytffapeomfjfedaa", sum := "32a938e8e170771e1fa58256cb14d5ce11305927b6f0d217ecdf86ded80de057", func := "corsage/corsagelaw03.ArcsRatio", spec := "arcsRatio", unfollowed := true, recurses := true, plainKeys := false, apart := false }
def ArcsRatioSaid : Prop := arcsRatioRow.holds Try.pinned (OpenSpec.ofChange arcsRatioSpec)

/-- ITS FALSE NEIGHBOUR: 'it returns false'. Refute it at one input. -/
def arcsRatioWrong : ChangeSpec := { name := "arcsRatio", fn := fun _ => fun
  | [d1, d2, d3] => { results := [.lit (.bool false)], args := [d1, d2, d3] }
  | _ => none }
def ArcsRatioWrongFalsely : Prop := arcsRatioRow.holds Try.pinned (OpenSpec.ofChange arcsRatioWrong)

/-- 'corsagelaw03.ArcsBlocks': WHATEVER THE INPUT: true; the input reads as it did. -/
def arcsBlocksSpec : ChangeSpec := { name := "arcsBlocks", fn := fun _ => fun
  | [d1, d2] => { results := [.lit (.bool true)], args := [d1, d2] }
  | _ => none }
def arcsBlocksRow : OpenClaim := { program := "ytffapeomfjfedaa", sum := "32a938e8e170771e1fa58256cb14d5ce11305927b6f0d217ecdf86ded80de057", func := "corsage/corsagelaw03.ArcsBlocks", spec := "arcsBlocks", unfollowed := true, recurses := true, plainKeys := false, apart := false }
def ArcsBlocksSaid : Prop := arcsBlocksRow.holds Try.pinned (OpenSpec.ofChange arcsBlocksSpec)

/-- ITS FALSE NEIGHBOUR: 'it returns false'. Refute it at one input. -/
def arcsBlocksWrong : ChangeSpec := { name := "arcsBlocks", fn := fun _ => fun
  | [d1, d2] => { results := [.lit (.bool false)], args := [d1, d2] }
  | _ => none }
def ArcsBlocksWrongFalsely : Prop := arcsBlocksRow.holds Try.pinned (OpenSpec.ofChange arcsBlocksWrong)

/-- 'corsagelaw03.ArcsMaps': WHATEVER THE INPUT: true; the input reads as it did. -/
def arcsMapsSpec : ChangeSpec := { name := "arcsMaps", fn := fun _ => fun
  | [d1, d2, d3, d4, d5] => { results := [.lit (.bool true)], args := [d1, d2, d3, d4, d5] }
  | _ => none }
def arcsMapsRow : OpenClaim := { program := "ytffapeomfjfedaa", sum := "32a938e8e170771e1fa58256cb14d5ce11305927b6f0d217ecdf86ded80de057", func := "corsage/corsagelaw03.ArcsMaps", spec := "arcsMaps", unfollowed := true, recurses := true, plainKeys := false, apart := false }
def ArcsMapsSaid : Prop := arcsMapsRow.holds Try.pinned (OpenSpec.ofChange arcsMapsSpec)

/-- ITS FALSE NEIGHBOUR: 'it returns false'. Refute it at one input. -/
def arcsMapsWrong : ChangeSpec := { name := "arcsMaps", fn := fun _ => fun
  | [d1, d2, d3, d4, d5] => { results := [.lit (.bool false)], args := [d1, d2, d3, d4, d5] }
  | _ => none }
def ArcsMapsWrongFalsely : Prop := arcsMapsRow.holds Try.pinned (OpenSpec.ofChange arcsMapsWrong)

/-- 'corsagelaw03.ArcsMoved': WHATEVER THE INPUT: true; the input reads as it did. -/
def arcsMovedSpec : ChangeSpec := { name := "arcsMoved", fn := fun _ => fun
  | [d1, d2, d3, d4, d5] => { results := [.lit (.bool true)], args := [d1, d2, d3, d4, d5] }
  | _ => none }
def arcsMovedRow : OpenClaim := { program := "ytffapeomfjfedaa", sum := "32a938e8e170771e1fa58256cb14d5ce11305927b6f0d217ecdf86ded80de057", func := "corsage/corsagelaw03.ArcsMoved", spec := "arcsMoved", unfollowed := true, recurses := true, plainKeys := false, apart := false }
def ArcsMovedSaid : Prop := arcsMovedRow.holds Try.pinned (OpenSpec.ofChange arcsMovedSpec)

/-- ITS FALSE NEIGHBOUR: 'it returns false'. Refute it at one input. -/
def arcsMovedWrong : ChangeSpec := { name := "arcsMoved", fn := fun _ => fun
  | [d1, d2, d3, d4, d5] => { results := [.lit (.bool false)], args := [d1, d2, d3, d4, d5] }
  | _ => none }
def ArcsMovedWrongFalsely : Prop := arcsMovedRow.holds Try.pinned (OpenSpec.ofChange arcsMovedWrong)

/-- 'corsagelaw03.ArcsPascal': WHATEVER THE INPUT: true; the input reads as it did. -/
def arcsPascalSpec : ChangeSpec := { name := "arcsPascal", fn := fun _ => fun
  | [d1, d2, d3] => { results := [.lit (.bool true)], args := [d1, d2, d3] }
  | _ => none }
def arcsPascalRow : OpenClaim := { program := "ytffapeomfjfedaa", sum := "32a938e8e170771e1fa58256cb14d5ce11305927b6f0d217ecdf86ded80de057", func := "corsage/corsagelaw03.ArcsPascal", spec := "arcsPascal", unfollowed := true, recurses := true, plainKeys := false, apart := false }
def ArcsPascalSaid : Prop := arcsPascalRow.holds Try.pinned (OpenSpec.ofChange arcsPascalSpec)

/-- ITS FALSE NEIGHBOUR: 'it returns false'. Refute it at one input. -/
def arcsPascalWrong : ChangeSpec := { name := "arcsPascal", fn := fun _ => fun
  | [d1, d2, d3] => { results := [.lit (.bool false)], args := [d1, d2, d3] }
  | _ => none }
def ArcsPascalWrongFalsely : Prop := arcsPascalRow.holds Try.pinned (OpenSpec.ofChange arcsPascalWrong)

/-- 'corsagelaw03.ArcsCurves': WHATEVER THE INPUT: true; the input reads as it did. -/
def arcsCurvesSpec : ChangeSpec := { name := "arcsCurves", fn := fun _ => fun
  | [d1, d2, d3] => { results := [.lit (.bool true)], args := [d1, d2, d3] }
  | _ => none }
def arcsCurvesRow : OpenClaim := { program := "ytffapeomfjfedaa", sum := "32a938e8e170771e1fa58256cb14d5ce11305927b6f0d217ecdf86ded80de057", func := "corsage/corsagelaw03.ArcsCurves", spec := "arcsCurves", unfollowed := true, recurses := true, plainKeys := false, apart := false }
def ArcsCurvesSaid : Prop := arcsCurvesRow.holds Try.pinned (OpenSpec.ofChange arcsCurvesSpec)

/-- ITS FALSE NEIGHBOUR: 'it returns false'. Refute it at one input. -/
def arcsCurvesWrong : ChangeSpec := { name := "arcsCurves", fn := fun _ => fun
  | [d1, d2, d3] => { results := [.lit (.bool false)], args := [d1, d2, d3] }
  | _ => none }
def ArcsCurvesWrongFalsely : Prop := arcsCurvesRow.holds Try.pinned (OpenSpec.ofChange arcsCurvesWrong)

/-- 'corsagelaw03.ArcsArcs': WHATEVER THE INPUT: true; the input reads as it did. -/
def arcsArcsSpec : ChangeSpec := { name := "arcsArcs", fn := fun _ => fun
  | [d1, d2] => { results := [.lit (.bool true)], args := [d1, d2] }
  | _ => none }
def arcsArcsRow : OpenClaim := { program := "ytffapeomfjfedaa", sum := "32a938e8e170771e1fa58256cb14d5ce11305927b6f0d217ecdf86ded80de057", func := "corsage/corsagelaw03.ArcsArcs", spec := "arcsArcs", unfollowed := true, recurses := true, plainKeys := false, apart := false }
def ArcsArcsSaid : Prop := arcsArcsRow.holds Try.pinned (OpenSpec.ofChange arcsArcsSpec)

/-- ITS FALSE NEIGHBOUR: 'it returns false'. Refute it at one input. -/
def arcsArcsWrong : ChangeSpec := { name := "arcsArcs", fn := fun _ => fun
  | [d1, d2] => { results := [.lit (.bool false)], args := [d1, d2] }
  | _ => none }
def ArcsArcsWrongFalsely : Prop := arcsArcsRow.holds Try.pinned (OpenSpec.ofChange arcsArcsWrong)

/-- 'corsagelaw03.ArcsTouch': WHATEVER THE INPUT: true; the input reads as it did. -/
def arcsTouchSpec : ChangeSpec := { name := "arcsTouch", fn := fun _ => fun
  | [d1, d2] => { results := [.lit (.bool true)], args := [d1, d2] }
  | _ => none }
def arcsTouchRow : OpenClaim := { program := "ytffapeomfjfedaa", sum := "32a938e8e170771e1fa58256cb14d5ce11305927b6f0d217ecdf86ded80de057", func := "corsage/corsagelaw03.ArcsTouch", spec := "arcsTouch", unfollowed := true, recurses := true, plainKeys := false, apart := false }
def ArcsTouchSaid : Prop := arcsTouchRow.holds Try.pinned (OpenSpec.ofChange arcsTouchSpec)

/-- ITS FALSE NEIGHBOUR: 'it returns false'. Refute it at one input. -/
def arcsTouchWrong : ChangeSpec := { name := "arcsTouch", fn := fun _ => fun
  | [d1, d2] => { results := [.lit (.bool false)], args := [d1, d2] }
  | _ => none }
def ArcsTouchWrongFalsely : Prop := arcsTouchRow.holds Try.pinned (OpenSpec.ofChange arcsTouchWrong)

/-- 'corsagelaw03.ArcsFive': WHATEVER THE INPUT: true; the input reads as it did. -/
def arcsFiveSpec : ChangeSpec := { name := "arcsFive", fn := fun _ => fun
  | [d1, d2, d3] => { results := [.lit (.bool true)], args := [d1, d2, d3] }
  | _ => none }
def arcsFiveRow : OpenClaim := { program := "ytffapeomfjfedaa", sum := "32a938e8e170771e1fa58256cb14d5ce11305927b6f0d217ecdf86ded80de057", func := "corsage/corsagelaw03.ArcsFive", spec := "arcsFive", unfollowed := true, recurses := true, plainKeys := false, apart := false }
def ArcsFiveSaid : Prop := arcsFiveRow.holds Try.pinned (OpenSpec.ofChange arcsFiveSpec)

/-- ITS FALSE NEIGHBOUR: 'it returns false'. Refute it at one input. -/
def arcsFiveWrong : ChangeSpec := { name := "arcsFive", fn := fun _ => fun
  | [d1, d2, d3] => { results := [.lit (.bool false)], args := [d1, d2, d3] }
  | _ => none }
def ArcsFiveWrongFalsely : Prop := arcsFiveRow.holds Try.pinned (OpenSpec.ofChange arcsFiveWrong)

/-- 'corsagelaw03.ArcsSegre': WHATEVER THE INPUT: true; the input reads as it did. -/
def arcsSegreSpec : ChangeSpec := { name := "arcsSegre", fn := fun _ => fun
  | [d1, d2, d3] => { results := [.lit (.bool true)], args := [d1, d2, d3] }
  | _ => none }
def arcsSegreRow : OpenClaim := { program := "ytffapeomfjfedaa", sum := "32a938e8e170771e1fa58256cb14d5ce11305927b6f0d217ecdf86ded80de057", func := "corsage/corsagelaw03.ArcsSegre", spec := "arcsSegre", unfollowed := true, recurses := true, plainKeys := false, apart := false }
def ArcsSegreSaid : Prop := arcsSegreRow.holds Try.pinned (OpenSpec.ofChange arcsSegreSpec)

/-- ITS FALSE NEIGHBOUR: 'it returns false'. Refute it at one input. -/
def arcsSegreWrong : ChangeSpec := { name := "arcsSegre", fn := fun _ => fun
  | [d1, d2, d3] => { results := [.lit (.bool false)], args := [d1, d2, d3] }
  | _ => none }
def ArcsSegreWrongFalsely : Prop := arcsSegreRow.holds Try.pinned (OpenSpec.ofChange arcsSegreWrong)

/- THE SECOND FORM. 'bulk': how many values and letters a reading holds, each counted each time it is reached (what is shared counts as often as it is met; a slice's spare places count too). A statement '..UptoSaid' is the law's where the arguments, and the package variables that the reading takes, are together of bulk at most 1048576: NARROWER than '..Said'. Prove '..Said' where nothing that the law and all that it calls make is longer than what came in: it says more and counts as full. Else prove '..UptoSaid'. A law counts once. -/
mutual
def uptoBulk {H : Type} : DataW H → Nat
  | .lit (.string bytes) => bytes.length + 1
  | .lit _ => 1
  | .nil => 1
  | .ptr d => uptoBulk d + 1
  | .slice elems spare => uptoBulkAll elems + uptoBulkAll spare + 1
  | .agg parts => uptoBulkAll parts + 1
  | .iface _ d => uptoBulk d + 1
  | .map entries => uptoBulkEntries entries + 1
  | .held _ => 1
def uptoBulkAll {H : Type} : List (DataW H) → Nat
  | [] => 0
  | d :: r => uptoBulk d + uptoBulkAll r
def uptoBulkEntries {H : Type} : List (Lit × DataW H) → Nat
  | [] => 0
  | x :: r => uptoBulkEntry x + uptoBulkEntries r
def uptoBulkEntry {H : Type} : Lit × DataW H → Nat
  | (.string bytes, d) => bytes.length + uptoBulk d + 1
  | (_, d) => uptoBulk d + 1
 end
def uptoSmall : (H : Type) → List (DataW H) → Bool := fun _ ds => decide (uptoBulkAll ds ≤ 1048576)
def OpenSpec.upto (s : _root_.Go.ChangeSpec) : _root_.Go.OpenSpec := { _root_.Go.OpenSpec.ofChange s with cond := some uptoSmall }

/-- 'corsagelaw03.ArcsJoins', WHERE WHAT IT READS IS OF BULK AT MOST 1048576: true; the input reads as it did. -/
def arcsJoinsUptoRow : OpenClaim := { program := "ytffapeomfjfedaa", sum := "32a938e8e170771e1fa58256cb14d5ce11305927b6f0d217ecdf86ded80de057", func := "corsage/corsagelaw03.ArcsJoins", spec := "arcsJoins", unfollowed := true, recurses := true, plainKeys := false, apart := false, narrowed := true }
def ArcsJoinsUptoSaid : Prop := arcsJoinsUptoRow.holds Try.pinned (OpenSpec.upto arcsJoinsSpec)

/-- 'corsagelaw03.ArcsPlane', WHERE WHAT IT READS IS OF BULK AT MOST 1048576: true; the input reads as it did. -/
def arcsPlaneUptoRow : OpenClaim := { program := "ytffapeomfjfedaa", sum := "32a938e8e170771e1fa58256cb14d5ce11305927b6f0d217ecdf86ded80de057", func := "corsage/corsagelaw03.ArcsPlane", spec := "arcsPlane", unfollowed := true, recurses := true, plainKeys := false, apart := false, narrowed := true }
def ArcsPlaneUptoSaid : Prop := arcsPlaneUptoRow.holds Try.pinned (OpenSpec.upto arcsPlaneSpec)

/-- 'corsagelaw03.ArcsCross', WHERE WHAT IT READS IS OF BULK AT MOST 1048576: true; the input reads as it did. -/
def arcsCrossUptoRow : OpenClaim := { program := "ytffapeomfjfedaa", sum := "32a938e8e170771e1fa58256cb14d5ce11305927b6f0d217ecdf86ded80de057", func := "corsage/corsagelaw03.ArcsCross", spec := "arcsCross", unfollowed := true, recurses := true, plainKeys := false, apart := false, narrowed := true }
def ArcsCrossUptoSaid : Prop := arcsCrossUptoRow.holds Try.pinned (OpenSpec.upto arcsCrossSpec)

/-- 'corsagelaw03.ArcsPoints', WHERE WHAT IT READS IS OF BULK AT MOST 1048576: true; the input reads as it did. -/
def arcsPointsUptoRow : OpenClaim := { program := "ytffapeomfjfedaa", sum := "32a938e8e170771e1fa58256cb14d5ce11305927b6f0d217ecdf86ded80de057", func := "corsage/corsagelaw03.ArcsPoints", spec := "arcsPoints", unfollowed := true, recurses := true, plainKeys := false, apart := false, narrowed := true }
def ArcsPointsUptoSaid : Prop := arcsPointsUptoRow.holds Try.pinned (OpenSpec.upto arcsPointsSpec)

/-- 'corsagelaw03.ArcsBlocking', WHERE WHAT IT READS IS OF BULK AT MOST 1048576: true; the input reads as it did. -/
def arcsBlockingUptoRow : OpenClaim := { program := "ytffapeomfjfedaa", sum := "32a938e8e170771e1fa58256cb14d5ce11305927b6f0d217ecdf86ded80de057", func := "corsage/corsagelaw03.ArcsBlocking", spec := "arcsBlocking", unfollowed := true, recurses := true, plainKeys := false, apart := false, narrowed := true }
def ArcsBlockingUptoSaid : Prop := arcsBlockingUptoRow.holds Try.pinned (OpenSpec.upto arcsBlockingSpec)

/-- 'corsagelaw03.ArcsGreatest', WHERE WHAT IT READS IS OF BULK AT MOST 1048576: true; the input reads as it did. -/
def arcsGreatestUptoRow : OpenClaim := { program := "ytffapeomfjfedaa", sum := "32a938e8e170771e1fa58256cb14d5ce11305927b6f0d217ecdf86ded80de057", func := "corsage/corsagelaw03.ArcsGreatest", spec := "arcsGreatest", unfollowed := true, recurses := true, plainKeys := false, apart := false, narrowed := true }
def ArcsGreatestUptoSaid : Prop := arcsGreatestUptoRow.holds Try.pinned (OpenSpec.upto arcsGreatestSpec)

/-- 'corsagelaw03.ArcsRatio', WHERE WHAT IT READS IS OF BULK AT MOST 1048576: true; the input reads as it did. -/
def arcsRatioUptoRow : OpenClaim := { program := "ytffapeomfjfedaa", sum := "32a938e8e170771e1fa58256cb14d5ce11305927b6f0d217ecdf86ded80de057", func := "corsage/corsagelaw03.ArcsRatio", spec := "arcsRatio", unfollowed := true, recurses := true, plainKeys := false, apart := false, narrowed := true }
def ArcsRatioUptoSaid : Prop := arcsRatioUptoRow.holds Try.pinned (OpenSpec.upto arcsRatioSpec)

/-- 'corsagelaw03.ArcsBlocks', WHERE WHAT IT READS IS OF BULK AT MOST 1048576: true; the input reads as it did. -/
def arcsBlocksUptoRow : OpenClaim := { program := "ytffapeomfjfedaa", sum := "32a938e8e170771e1fa58256cb14d5ce11305927b6f0d217ecdf86ded80de057", func := "corsage/corsagelaw03.ArcsBlocks", spec := "arcsBlocks", unfollowed := true, recurses := true, plainKeys := false, apart := false, narrowed := true }
def ArcsBlocksUptoSaid : Prop := arcsBlocksUptoRow.holds Try.pinned (OpenSpec.upto arcsBlocksSpec)

/-- 'corsagelaw03.ArcsMaps', WHERE WHAT IT READS IS OF BULK AT MOST 1048576: true; the input reads as it did. -/
def arcsMapsUptoRow : OpenClaim := { program := "ytffapeomfjfedaa", sum := "32a938e8e170771e1fa58256cb14d5ce11305927b6f0d217ecdf86ded80de057", func := "corsage/corsagelaw03.ArcsMaps", spec := "arcsMaps", unfollowed := true, recurses := true, plainKeys := false, apart := false, narrowed := true }
def ArcsMapsUptoSaid : Prop := arcsMapsUptoRow.holds Try.pinned (OpenSpec.upto arcsMapsSpec)

/-- 'corsagelaw03.ArcsMoved', WHERE WHAT IT READS IS OF BULK AT MOST 1048576: true; the input reads as it did. -/
def arcsMovedUptoRow : OpenClaim := { program := "ytffapeomfjfedaa", sum := "32a938e8e170771e1fa58256cb14d5ce11305927b6f0d217ecdf86ded80de057", func := "corsage/corsagelaw03.ArcsMoved", spec := "arcsMoved", unfollowed := true, recurses := true, plainKeys := false, apart := false, narrowed := true }
def ArcsMovedUptoSaid : Prop := arcsMovedUptoRow.holds Try.pinned (OpenSpec.upto arcsMovedSpec)

/-- 'corsagelaw03.ArcsPascal', WHERE WHAT IT READS IS OF BULK AT MOST 1048576: true; the input reads as it did. -/
def arcsPascalUptoRow : OpenClaim := { program := "ytffapeomfjfedaa", sum := "32a938e8e170771e1fa58256cb14d5ce11305927b6f0d217ecdf86ded80de057", func := "corsage/corsagelaw03.ArcsPascal", spec := "arcsPascal", unfollowed := true, recurses := true, plainKeys := false, apart := false, narrowed := true }
def ArcsPascalUptoSaid : Prop := arcsPascalUptoRow.holds Try.pinned (OpenSpec.upto arcsPascalSpec)

/-- 'corsagelaw03.ArcsCurves', WHERE WHAT IT READS IS OF BULK AT MOST 1048576: true; the input reads as it did. -/
def arcsCurvesUptoRow : OpenClaim := { program := "ytffapeomfjfedaa", sum := "32a938e8e170771e1fa58256cb14d5ce11305927b6f0d217ecdf86ded80de057", func := "corsage/corsagelaw03.ArcsCurves", spec := "arcsCurves", unfollowed := true, recurses := true, plainKeys := false, apart := false, narrowed := true }
def ArcsCurvesUptoSaid : Prop := arcsCurvesUptoRow.holds Try.pinned (OpenSpec.upto arcsCurvesSpec)

/-- 'corsagelaw03.ArcsArcs', WHERE WHAT IT READS IS OF BULK AT MOST 1048576: true; the input reads as it did. -/
def arcsArcsUptoRow : OpenClaim := { program := "ytffapeomfjfedaa", sum := "32a938e8e170771e1fa58256cb14d5ce11305927b6f0d217ecdf86ded80de057", func := "corsage/corsagelaw03.ArcsArcs", spec := "arcsArcs", unfollowed := true, recurses := true, plainKeys := false, apart := false, narrowed := true }
def ArcsArcsUptoSaid : Prop := arcsArcsUptoRow.holds Try.pinned (OpenSpec.upto arcsArcsSpec)

/-- 'corsagelaw03.ArcsTouch', WHERE WHAT IT READS IS OF BULK AT MOST 1048576: true; the input reads as it did. -/
def arcsTouchUptoRow : OpenClaim := { program := "ytffapeomfjfedaa", sum := "32a938e8e170771e1fa58256cb14d5ce11305927b6f0d217ecdf86ded80de057", func := "corsage/corsagelaw03.ArcsTouch", spec := "arcsTouch", unfollowed := true, recurses := true, plainKeys := false, apart := false, narrowed := true }
def ArcsTouchUptoSaid : Prop := arcsTouchUptoRow.holds Try.pinned (OpenSpec.upto arcsTouchSpec)

/-- 'corsagelaw03.ArcsFive', WHERE WHAT IT READS IS OF BULK AT MOST 1048576: true; the input reads as it did. -/
def arcsFiveUptoRow : OpenClaim := { program := "ytffapeomfjfedaa", sum := "32a938e8e170771e1fa58256cb14d5ce11305927b6f0d217ecdf86ded80de057", func := "corsage/corsagelaw03.ArcsFive", spec := "arcsFive", unfollowed := true, recurses := true, plainKeys := false, apart := false, narrowed := true }
def ArcsFiveUptoSaid : Prop := arcsFiveUptoRow.holds Try.pinned (OpenSpec.upto arcsFiveSpec)

/-- 'corsagelaw03.ArcsSegre', WHERE WHAT IT READS IS OF BULK AT MOST 1048576: true; the input reads as it did. -/
def arcsSegreUptoRow : OpenClaim := { program := "ytffapeomfjfedaa", sum := "32a938e8e170771e1fa58256cb14d5ce11305927b6f0d217ecdf86ded80de057", func := "corsage/corsagelaw03.ArcsSegre", spec := "arcsSegre", unfollowed := true, recurses := true, plainKeys := false, apart := false, narrowed := true }
def ArcsSegreUptoSaid : Prop := arcsSegreUptoRow.holds Try.pinned (OpenSpec.upto arcsSegreSpec)

end Rows
end Go.Proofs.Ytffapeomfjfedaa
